/-
  Part 4 of the proof that FnRepeats returns true for every input: the functions that it reaches, each with its contract, and the law.
  Conditions: those of the given statement, no others.
-/
import Derived.Test.YtblcdgnihmcdpaaGreatDoorCFnRepeatsW0
import Derived.Test.YtblcdgnihmcdpaaGreatDoorCFnRepeats0
import Derived.Test.YtblcdgnihmcdpaaGreatDoorCFnRepeats1
import Derived.Test.YtblcdgnihmcdpaaGreatDoorCFnRepeats2
set_option linter.unusedVariables false
set_option linter.unusedSimpArgs false
set_option maxHeartbeats 8000000
set_option maxRecDepth 100000
namespace Go.Proofs.YtblcdgnihmcdpaaGreatDoor.P
open Go.RowKit Go.Proofs.YtblcdgnihmcdpaaGreatDoorW.PrintWords Go.Proofs.YtblcdgnihmcdpaaGreatDoorW.PrintLast Go.Proofs.YtblcdgnihmcdpaaGreatDoorW.PrintMore
attribute [local go_sem] max2_int min2_int max_two min_two max_three min_three max_four min_four
mutual
def wF23.j0 : Nat → List Int → ByteArray → ByteArray → Bool → Bool → Option (Bool)
 | 0, _, _, _, _, _ => none
 | k + 1, x0, x3, x4, x5, x66 => if x66 = true then (some false) else ((iF9.f k x3).bind fun bt613 => ((sF35.f k x3).bind fun bt615 => (if bt613.1.toList = bt615.1.toList then (wF23.j1 k x0 x3 x4 x5 bt613.1 bt613.2 (bt613.2 != bt615.2)) else (wF23.j1 k x0 x3 x4 x5 bt613.1 bt613.2 true))))
def wF23.j1 : Nat → List Int → ByteArray → ByteArray → Bool → ByteArray → Bool → Bool → Option (Bool)
 | 0, _, _, _, _, _, _, _ => none
 | k + 1, x0, x3, x4, x5, x8, x9, x84 => if x84 = true then (some false) else ((iF10.f k x3).bind fun bt617 => ((sF36.f k x3).bind fun bt621 => (if (bt617.2 != bt621.2) = true then (wF23.j2 k x0 x3 x4 x5 x8 x9 bt617.1 bt617.2 true) else ((iF5.f x3).bind fun t625 => (if (bt617.2 != t625) = true then (wF23.j2 k x0 x3 x4 x5 x8 x9 bt617.1 bt617.2 true) else ((wF26.f k bt617.1 bt621.1).bind fun t626 => (wF23.j2 k x0 x3 x4 x5 x8 x9 bt617.1 bt617.2 (!t626))))))))
def wF23.j2 : Nat → List Int → ByteArray → ByteArray → Bool → ByteArray → Bool → List ByteArray → Bool → Bool → Option (Bool)
 | 0, _, _, _, _, _, _, _, _, _ => none
 | k + 1, x0, x3, x4, x5, x8, x9, x12, x13, x109 => if x109 = true then (some false) else ((iF13.f k x3).bind fun bt627 => ((sF38.f k x3).bind fun bt631 => (if (bt627.2 != bt631.2) = true then (wF23.j3 k x0 x3 x4 x5 x8 x9 x12 true) else (if (bt627.2 != x13) = true then (wF23.j3 k x0 x3 x4 x5 x8 x9 x12 true) else ((wF26.f k bt627.1 bt631.1).bind fun t635 => (if t635 = true then (if bt627.2 = true then (wF23.j3 k x0 x3 x4 x5 x8 x9 x12 (decide ((bt627.1.length : Int) > (x3.size : Int)))) else (wF23.j3 k x0 x3 x4 x5 x8 x9 x12 false)) else (wF23.j3 k x0 x3 x4 x5 x8 x9 x12 true)))))))
def wF23.j3 : Nat → List Int → ByteArray → ByteArray → Bool → ByteArray → Bool → List ByteArray → Bool → Option (Bool)
 | 0, _, _, _, _, _, _, _, _ => none
 | k + 1, x0, x3, x4, x5, x8, x9, x12, x143 => if x143 = true then (some false) else ((sF28.f k x0).bind fun bt636 => ((iF4.f k bt636.1 bt636.2).bind fun bt638 => ((sF27.f k bt636.1 bt636.2).bind fun bt640 => (if bt638.1.toList = bt640.1.toList then (wF23.j4 k x0 x3 x4 x5 x8 x9 x12 bt636.1 bt636.2 bt638.1 bt638.2 (bt638.2 != bt640.2)) else (wF23.j4 k x0 x3 x4 x5 x8 x9 x12 bt636.1 bt636.2 bt638.1 bt638.2 true)))))
def wF23.j4 : Nat → List Int → ByteArray → ByteArray → Bool → ByteArray → Bool → List ByteArray → ByteArray → ByteArray → ByteArray → Bool → Bool → Option (Bool)
 | 0, _, _, _, _, _, _, _, _, _, _, _, _ => none
 | k + 1, x0, x3, x4, x5, x8, x9, x12, x20, x21, x22, x23, x168 => if x168 = true then (some false) else ((sF31.f k x0).bind fun bt642 => ((iF8.f k bt642.1 bt642.2).bind fun bt644 => ((sF34.f k bt642.1 bt642.2).bind fun bt646 => (if bt644.1.toList = bt646.1.toList then (wF23.j5 k x3 x4 x5 x8 x9 x12 x20 x21 x22 x23 bt642.1 bt644.1 bt644.2 (bt644.2 != bt646.2)) else (wF23.j5 k x3 x4 x5 x8 x9 x12 x20 x21 x22 x23 bt642.1 bt644.1 bt644.2 true)))))
def wF23.j5 : Nat → ByteArray → ByteArray → Bool → ByteArray → Bool → List ByteArray → ByteArray → ByteArray → ByteArray → Bool → ByteArray → ByteArray → Bool → Bool → Option (Bool)
 | 0, _, _, _, _, _, _, _, _, _, _, _, _, _, _ => none
 | k + 1, x3, x4, x5, x8, x9, x12, x20, x21, x22, x23, x26, x28, x29, x193 => if x193 = true then (some false) else (if x23 = true then ((iF4.f k x21 x20).bind fun bt648 => (if bt648.2 = true then (if bt648.1.toList = x22.toList then (wF23.j6 k x3 x4 x5 x8 x9 x12 x26 x28 x29) else (some false)) else (some false))) else (wF23.j6 k x3 x4 x5 x8 x9 x12 x26 x28 x29))
def wF23.j6 : Nat → ByteArray → ByteArray → Bool → ByteArray → Bool → List ByteArray → ByteArray → ByteArray → Bool → Option (Bool)
 | 0, _, _, _, _, _, _, _, _, _ => none
 | k + 1, x3, x4, x5, x8, x9, x12, x26, x28, x29 => if x29 = true then ((iF5.f x28).bind fun t650 => (wF23.j7 k x3 x4 x5 x8 x9 x12 x26 x28 t650)) else (wF23.j7 k x3 x4 x5 x8 x9 x12 x26 x28 false)
def wF23.j7 : Nat → ByteArray → ByteArray → Bool → ByteArray → Bool → List ByteArray → ByteArray → ByteArray → Bool → Option (Bool)
 | 0, _, _, _, _, _, _, _, _, _ => none
 | k + 1, x3, x4, x5, x8, x9, x12, x26, x28, x212 => if x212 = true then ((iF7.f k x26 x28).bind fun bt651 => (if bt651.2 = true then (if (bt651.1.length : Int) = 0 then (wF23.j8 k x3 x4 x5 x8 x9 x12) else (some false)) else (some false))) else (wF23.j8 k x3 x4 x5 x8 x9 x12)
def wF23.j8 : Nat → ByteArray → ByteArray → Bool → ByteArray → Bool → List ByteArray → Option (Bool)
 | 0, _, _, _, _, _, _ => none
 | k + 1, x3, x4, x5, x8, x9, x12 => if x9 = true then ((iF7.f k x3 x8).bind fun bt655 => (if bt655.2 = true then (if (bt655.1.length : Int) = 1 then (wF23.j9 k x3 x4 x5 x8 x12) else (some false)) else (some false))) else (wF23.j9 k x3 x4 x5 x8 x12)
def wF23.j9 : Nat → ByteArray → ByteArray → Bool → ByteArray → List ByteArray → Option (Bool)
 | 0, _, _, _, _, _ => none
 | k + 1, x3, x4, x5, x8, x12 => if x5 = true then ((iF12.f k x3).bind fun bt659 => (if bt659.2 = true then (wF23.l0 k x3 x4 x8 x12 bt659.1 0) else (some false))) else (some true)
def wF23.l0 : Nat → ByteArray → ByteArray → ByteArray → List ByteArray → List ByteArray → Int → Option (Bool)
 | 0, _, _, _, _, _, _ => none
 | k + 1, x3, x4, x8, x12, x38, x40 => if x40 < (x38.length : Int) then (if 0 ≤ x40 then ((iF7.f k x3 (rdOf ByteArray.empty x38 x40)).bind fun bt664 => (if bt664.2 = true then (if ((rdOf ByteArray.empty x38 x40).size : Int) > (x4.size : Int) then (if (bt664.1.length : Int) > 1 then (some false) else (if (rdOf ByteArray.empty x38 x40).toList = x4.toList then (if (bt664.1.length : Int) < 2 then (some false) else (if ((rdOf ByteArray.empty x38 x40).size : Int) < (x8.size : Int) then (wF23.l0 k x3 x4 x8 x12 x38 (wrap64 (x40 + 1))) else (wF23.l0 k x3 x4 x8 x12 x38 (wrap64 (x40 + 1))))) else (if ((rdOf ByteArray.empty x38 x40).size : Int) < (x8.size : Int) then (if (bt664.1.length : Int) < 2 then (some false) else (wF23.l0 k x3 x4 x8 x12 x38 (wrap64 (x40 + 1)))) else (wF23.l0 k x3 x4 x8 x12 x38 (wrap64 (x40 + 1)))))) else (if (rdOf ByteArray.empty x38 x40).toList = x4.toList then (if (bt664.1.length : Int) < 2 then (some false) else (if ((rdOf ByteArray.empty x38 x40).size : Int) < (x8.size : Int) then (wF23.l0 k x3 x4 x8 x12 x38 (wrap64 (x40 + 1))) else (wF23.l0 k x3 x4 x8 x12 x38 (wrap64 (x40 + 1))))) else (if ((rdOf ByteArray.empty x38 x40).size : Int) < (x8.size : Int) then (if (bt664.1.length : Int) < 2 then (some false) else (wF23.l0 k x3 x4 x8 x12 x38 (wrap64 (x40 + 1)))) else (wF23.l0 k x3 x4 x8 x12 x38 (wrap64 (x40 + 1)))))) else (some false))) else (none)) else (wF23.l1 k x12 x38 0)
def wF23.l1 : Nat → List ByteArray → List ByteArray → Int → Option (Bool)
 | 0, _, _, _ => none
 | k + 1, x12, x38, x43 => if x43 < (x12.length : Int) then (if 0 ≤ x43 then (if (((rdOf ByteArray.empty x12 x43).size : Int) % 2) = 0 then (if 0 ≤ (wrap64 (((rdOf ByteArray.empty x12 x43).size : Int) / 2)) then (if (wrap64 (((rdOf ByteArray.empty x12 x43).size : Int) / 2)) ≤ ((rdOf ByteArray.empty x12 x43).size : Int) then (if ((rdOf ByteArray.empty x12 x43).extract 0 ((wrap64 (((rdOf ByteArray.empty x12 x43).size : Int) / 2)) : Int).toNat).toList = ((rdOf ByteArray.empty x12 x43).extract ((wrap64 (((rdOf ByteArray.empty x12 x43).size : Int) / 2)) : Int).toNat (rdOf ByteArray.empty x12 x43).size).toList then ((wF25.f k x38 (rdOf ByteArray.empty x12 x43)).bind fun t680 => (if t680 = true then (wF23.l1 k x12 x38 (wrap64 (x43 + 1))) else (some false))) else (some false)) else (none)) else (none)) else (some false)) else (none)) else (some true)
end
def wF23.f (k : Nat) (l0 : List Int) : Option (Bool) := (wF24.f l0).bind fun t607 => (if t607 = true then (some true) else ((sF30.f k l0).bind fun t608 => ((iF6.f k t608).bind fun bt609 => ((sF32.f k t608).bind fun bt611 => (if bt609.1.toList = bt611.1.toList then (wF23.j0 k l0 t608 bt609.1 bt609.2 (bt609.2 != bt611.2)) else (wF23.j0 k l0 t608 bt609.1 bt609.2 true))))))
theorem wF23.mono_l : ∀ k, (∀ y0 y1 y2 y3 y4, LeO (wF23.j0 k y0 y1 y2 y3 y4) (wF23.j0 (k + 1) y0 y1 y2 y3 y4)) ∧ (∀ y0 y1 y2 y3 y4 y5 y6, LeO (wF23.j1 k y0 y1 y2 y3 y4 y5 y6) (wF23.j1 (k + 1) y0 y1 y2 y3 y4 y5 y6)) ∧ (∀ y0 y1 y2 y3 y4 y5 y6 y7 y8, LeO (wF23.j2 k y0 y1 y2 y3 y4 y5 y6 y7 y8) (wF23.j2 (k + 1) y0 y1 y2 y3 y4 y5 y6 y7 y8)) ∧ (∀ y0 y1 y2 y3 y4 y5 y6 y7, LeO (wF23.j3 k y0 y1 y2 y3 y4 y5 y6 y7) (wF23.j3 (k + 1) y0 y1 y2 y3 y4 y5 y6 y7)) ∧ (∀ y0 y1 y2 y3 y4 y5 y6 y7 y8 y9 y10 y11, LeO (wF23.j4 k y0 y1 y2 y3 y4 y5 y6 y7 y8 y9 y10 y11) (wF23.j4 (k + 1) y0 y1 y2 y3 y4 y5 y6 y7 y8 y9 y10 y11)) ∧ (∀ y0 y1 y2 y3 y4 y5 y6 y7 y8 y9 y10 y11 y12 y13, LeO (wF23.j5 k y0 y1 y2 y3 y4 y5 y6 y7 y8 y9 y10 y11 y12 y13) (wF23.j5 (k + 1) y0 y1 y2 y3 y4 y5 y6 y7 y8 y9 y10 y11 y12 y13)) ∧ (∀ y0 y1 y2 y3 y4 y5 y6 y7 y8, LeO (wF23.j6 k y0 y1 y2 y3 y4 y5 y6 y7 y8) (wF23.j6 (k + 1) y0 y1 y2 y3 y4 y5 y6 y7 y8)) ∧ (∀ y0 y1 y2 y3 y4 y5 y6 y7 y8, LeO (wF23.j7 k y0 y1 y2 y3 y4 y5 y6 y7 y8) (wF23.j7 (k + 1) y0 y1 y2 y3 y4 y5 y6 y7 y8)) ∧ (∀ y0 y1 y2 y3 y4 y5, LeO (wF23.j8 k y0 y1 y2 y3 y4 y5) (wF23.j8 (k + 1) y0 y1 y2 y3 y4 y5)) ∧ (∀ y0 y1 y2 y3 y4, LeO (wF23.j9 k y0 y1 y2 y3 y4) (wF23.j9 (k + 1) y0 y1 y2 y3 y4)) ∧ (∀ y0 y1 y2 y3 y4 y5, LeO (wF23.l0 k y0 y1 y2 y3 y4 y5) (wF23.l0 (k + 1) y0 y1 y2 y3 y4 y5)) ∧ (∀ y0 y1 y2, LeO (wF23.l1 k y0 y1 y2) (wF23.l1 (k + 1) y0 y1 y2))
 | 0 => ⟨fun _ _ _ _ _ r h => by simp [wF23.j0] at h, fun _ _ _ _ _ _ _ r h => by simp [wF23.j1] at h, fun _ _ _ _ _ _ _ _ _ r h => by simp [wF23.j2] at h, fun _ _ _ _ _ _ _ _ r h => by simp [wF23.j3] at h, fun _ _ _ _ _ _ _ _ _ _ _ _ r h => by simp [wF23.j4] at h, fun _ _ _ _ _ _ _ _ _ _ _ _ _ _ r h => by simp [wF23.j5] at h, fun _ _ _ _ _ _ _ _ _ r h => by simp [wF23.j6] at h, fun _ _ _ _ _ _ _ _ _ r h => by simp [wF23.j7] at h, fun _ _ _ _ _ _ r h => by simp [wF23.j8] at h, fun _ _ _ _ _ r h => by simp [wF23.j9] at h, fun _ _ _ _ _ _ r h => by simp [wF23.l0] at h, fun _ _ _ r h => by simp [wF23.l1] at h⟩
 | k + 1 => by
  obtain ⟨ih0, ih1, ih2, ih3, ih4, ih5, ih6, ih7, ih8, ih9, ih10, ih11⟩ := wF23.mono_l k
  refine ⟨?_, ?_, ?_, ?_, ?_, ?_, ?_, ?_, ?_, ?_, ?_, ?_⟩
  ·
   intro y0 y1 y2 y3 y4
   unfold wF23.j0
   repeat' with_reducible first | exact ih0 _ _ _ _ _ | exact ih1 _ _ _ _ _ _ _ | exact ih2 _ _ _ _ _ _ _ _ _ | exact ih3 _ _ _ _ _ _ _ _ | exact ih4 _ _ _ _ _ _ _ _ _ _ _ _ | exact ih5 _ _ _ _ _ _ _ _ _ _ _ _ _ _ | exact ih6 _ _ _ _ _ _ _ _ _ | exact ih7 _ _ _ _ _ _ _ _ _ | exact ih8 _ _ _ _ _ _ | exact ih9 _ _ _ _ _ | exact ih10 _ _ _ _ _ _ | exact ih11 _ _ _ | exact iF4.mono _ _ _ | exact iF6.mono _ _ | exact iF7.mono _ _ _ | exact iF8.mono _ _ _ | exact iF9.mono _ _ | exact iF10.mono _ _ | exact iF12.mono _ _ | exact iF13.mono _ _ | exact wF25.mono _ _ _ | exact wF26.mono _ _ _ | exact sF27.mono _ _ _ | exact sF28.mono _ _ | exact sF30.mono _ _ | exact sF31.mono _ _ | exact sF32.mono _ _ | exact sF34.mono _ _ _ | exact sF35.mono _ _ | exact sF36.mono _ _ | exact sF38.mono _ _ | exact LeO.refl _ | exact LeO.none _ | refine LeO.ite ?_ ?_ | refine LeO.bind ?_ (fun _ => ?_)
  ·
   intro y0 y1 y2 y3 y4 y5 y6
   unfold wF23.j1
   repeat' with_reducible first | exact ih0 _ _ _ _ _ | exact ih1 _ _ _ _ _ _ _ | exact ih2 _ _ _ _ _ _ _ _ _ | exact ih3 _ _ _ _ _ _ _ _ | exact ih4 _ _ _ _ _ _ _ _ _ _ _ _ | exact ih5 _ _ _ _ _ _ _ _ _ _ _ _ _ _ | exact ih6 _ _ _ _ _ _ _ _ _ | exact ih7 _ _ _ _ _ _ _ _ _ | exact ih8 _ _ _ _ _ _ | exact ih9 _ _ _ _ _ | exact ih10 _ _ _ _ _ _ | exact ih11 _ _ _ | exact iF4.mono _ _ _ | exact iF6.mono _ _ | exact iF7.mono _ _ _ | exact iF8.mono _ _ _ | exact iF9.mono _ _ | exact iF10.mono _ _ | exact iF12.mono _ _ | exact iF13.mono _ _ | exact wF25.mono _ _ _ | exact wF26.mono _ _ _ | exact sF27.mono _ _ _ | exact sF28.mono _ _ | exact sF30.mono _ _ | exact sF31.mono _ _ | exact sF32.mono _ _ | exact sF34.mono _ _ _ | exact sF35.mono _ _ | exact sF36.mono _ _ | exact sF38.mono _ _ | exact LeO.refl _ | exact LeO.none _ | refine LeO.ite ?_ ?_ | refine LeO.bind ?_ (fun _ => ?_)
  ·
   intro y0 y1 y2 y3 y4 y5 y6 y7 y8
   unfold wF23.j2
   repeat' with_reducible first | exact ih0 _ _ _ _ _ | exact ih1 _ _ _ _ _ _ _ | exact ih2 _ _ _ _ _ _ _ _ _ | exact ih3 _ _ _ _ _ _ _ _ | exact ih4 _ _ _ _ _ _ _ _ _ _ _ _ | exact ih5 _ _ _ _ _ _ _ _ _ _ _ _ _ _ | exact ih6 _ _ _ _ _ _ _ _ _ | exact ih7 _ _ _ _ _ _ _ _ _ | exact ih8 _ _ _ _ _ _ | exact ih9 _ _ _ _ _ | exact ih10 _ _ _ _ _ _ | exact ih11 _ _ _ | exact iF4.mono _ _ _ | exact iF6.mono _ _ | exact iF7.mono _ _ _ | exact iF8.mono _ _ _ | exact iF9.mono _ _ | exact iF10.mono _ _ | exact iF12.mono _ _ | exact iF13.mono _ _ | exact wF25.mono _ _ _ | exact wF26.mono _ _ _ | exact sF27.mono _ _ _ | exact sF28.mono _ _ | exact sF30.mono _ _ | exact sF31.mono _ _ | exact sF32.mono _ _ | exact sF34.mono _ _ _ | exact sF35.mono _ _ | exact sF36.mono _ _ | exact sF38.mono _ _ | exact LeO.refl _ | exact LeO.none _ | refine LeO.ite ?_ ?_ | refine LeO.bind ?_ (fun _ => ?_)
  ·
   intro y0 y1 y2 y3 y4 y5 y6 y7
   unfold wF23.j3
   repeat' with_reducible first | exact ih0 _ _ _ _ _ | exact ih1 _ _ _ _ _ _ _ | exact ih2 _ _ _ _ _ _ _ _ _ | exact ih3 _ _ _ _ _ _ _ _ | exact ih4 _ _ _ _ _ _ _ _ _ _ _ _ | exact ih5 _ _ _ _ _ _ _ _ _ _ _ _ _ _ | exact ih6 _ _ _ _ _ _ _ _ _ | exact ih7 _ _ _ _ _ _ _ _ _ | exact ih8 _ _ _ _ _ _ | exact ih9 _ _ _ _ _ | exact ih10 _ _ _ _ _ _ | exact ih11 _ _ _ | exact iF4.mono _ _ _ | exact iF6.mono _ _ | exact iF7.mono _ _ _ | exact iF8.mono _ _ _ | exact iF9.mono _ _ | exact iF10.mono _ _ | exact iF12.mono _ _ | exact iF13.mono _ _ | exact wF25.mono _ _ _ | exact wF26.mono _ _ _ | exact sF27.mono _ _ _ | exact sF28.mono _ _ | exact sF30.mono _ _ | exact sF31.mono _ _ | exact sF32.mono _ _ | exact sF34.mono _ _ _ | exact sF35.mono _ _ | exact sF36.mono _ _ | exact sF38.mono _ _ | exact LeO.refl _ | exact LeO.none _ | refine LeO.ite ?_ ?_ | refine LeO.bind ?_ (fun _ => ?_)
  ·
   intro y0 y1 y2 y3 y4 y5 y6 y7 y8 y9 y10 y11
   unfold wF23.j4
   repeat' with_reducible first | exact ih0 _ _ _ _ _ | exact ih1 _ _ _ _ _ _ _ | exact ih2 _ _ _ _ _ _ _ _ _ | exact ih3 _ _ _ _ _ _ _ _ | exact ih4 _ _ _ _ _ _ _ _ _ _ _ _ | exact ih5 _ _ _ _ _ _ _ _ _ _ _ _ _ _ | exact ih6 _ _ _ _ _ _ _ _ _ | exact ih7 _ _ _ _ _ _ _ _ _ | exact ih8 _ _ _ _ _ _ | exact ih9 _ _ _ _ _ | exact ih10 _ _ _ _ _ _ | exact ih11 _ _ _ | exact iF4.mono _ _ _ | exact iF6.mono _ _ | exact iF7.mono _ _ _ | exact iF8.mono _ _ _ | exact iF9.mono _ _ | exact iF10.mono _ _ | exact iF12.mono _ _ | exact iF13.mono _ _ | exact wF25.mono _ _ _ | exact wF26.mono _ _ _ | exact sF27.mono _ _ _ | exact sF28.mono _ _ | exact sF30.mono _ _ | exact sF31.mono _ _ | exact sF32.mono _ _ | exact sF34.mono _ _ _ | exact sF35.mono _ _ | exact sF36.mono _ _ | exact sF38.mono _ _ | exact LeO.refl _ | exact LeO.none _ | refine LeO.ite ?_ ?_ | refine LeO.bind ?_ (fun _ => ?_)
  ·
   intro y0 y1 y2 y3 y4 y5 y6 y7 y8 y9 y10 y11 y12 y13
   unfold wF23.j5
   repeat' with_reducible first | exact ih0 _ _ _ _ _ | exact ih1 _ _ _ _ _ _ _ | exact ih2 _ _ _ _ _ _ _ _ _ | exact ih3 _ _ _ _ _ _ _ _ | exact ih4 _ _ _ _ _ _ _ _ _ _ _ _ | exact ih5 _ _ _ _ _ _ _ _ _ _ _ _ _ _ | exact ih6 _ _ _ _ _ _ _ _ _ | exact ih7 _ _ _ _ _ _ _ _ _ | exact ih8 _ _ _ _ _ _ | exact ih9 _ _ _ _ _ | exact ih10 _ _ _ _ _ _ | exact ih11 _ _ _ | exact iF4.mono _ _ _ | exact iF6.mono _ _ | exact iF7.mono _ _ _ | exact iF8.mono _ _ _ | exact iF9.mono _ _ | exact iF10.mono _ _ | exact iF12.mono _ _ | exact iF13.mono _ _ | exact wF25.mono _ _ _ | exact wF26.mono _ _ _ | exact sF27.mono _ _ _ | exact sF28.mono _ _ | exact sF30.mono _ _ | exact sF31.mono _ _ | exact sF32.mono _ _ | exact sF34.mono _ _ _ | exact sF35.mono _ _ | exact sF36.mono _ _ | exact sF38.mono _ _ | exact LeO.refl _ | exact LeO.none _ | refine LeO.ite ?_ ?_ | refine LeO.bind ?_ (fun _ => ?_)
  ·
   intro y0 y1 y2 y3 y4 y5 y6 y7 y8
   unfold wF23.j6
   repeat' with_reducible first | exact ih0 _ _ _ _ _ | exact ih1 _ _ _ _ _ _ _ | exact ih2 _ _ _ _ _ _ _ _ _ | exact ih3 _ _ _ _ _ _ _ _ | exact ih4 _ _ _ _ _ _ _ _ _ _ _ _ | exact ih5 _ _ _ _ _ _ _ _ _ _ _ _ _ _ | exact ih6 _ _ _ _ _ _ _ _ _ | exact ih7 _ _ _ _ _ _ _ _ _ | exact ih8 _ _ _ _ _ _ | exact ih9 _ _ _ _ _ | exact ih10 _ _ _ _ _ _ | exact ih11 _ _ _ | exact iF4.mono _ _ _ | exact iF6.mono _ _ | exact iF7.mono _ _ _ | exact iF8.mono _ _ _ | exact iF9.mono _ _ | exact iF10.mono _ _ | exact iF12.mono _ _ | exact iF13.mono _ _ | exact wF25.mono _ _ _ | exact wF26.mono _ _ _ | exact sF27.mono _ _ _ | exact sF28.mono _ _ | exact sF30.mono _ _ | exact sF31.mono _ _ | exact sF32.mono _ _ | exact sF34.mono _ _ _ | exact sF35.mono _ _ | exact sF36.mono _ _ | exact sF38.mono _ _ | exact LeO.refl _ | exact LeO.none _ | refine LeO.ite ?_ ?_ | refine LeO.bind ?_ (fun _ => ?_)
  ·
   intro y0 y1 y2 y3 y4 y5 y6 y7 y8
   unfold wF23.j7
   repeat' with_reducible first | exact ih0 _ _ _ _ _ | exact ih1 _ _ _ _ _ _ _ | exact ih2 _ _ _ _ _ _ _ _ _ | exact ih3 _ _ _ _ _ _ _ _ | exact ih4 _ _ _ _ _ _ _ _ _ _ _ _ | exact ih5 _ _ _ _ _ _ _ _ _ _ _ _ _ _ | exact ih6 _ _ _ _ _ _ _ _ _ | exact ih7 _ _ _ _ _ _ _ _ _ | exact ih8 _ _ _ _ _ _ | exact ih9 _ _ _ _ _ | exact ih10 _ _ _ _ _ _ | exact ih11 _ _ _ | exact iF4.mono _ _ _ | exact iF6.mono _ _ | exact iF7.mono _ _ _ | exact iF8.mono _ _ _ | exact iF9.mono _ _ | exact iF10.mono _ _ | exact iF12.mono _ _ | exact iF13.mono _ _ | exact wF25.mono _ _ _ | exact wF26.mono _ _ _ | exact sF27.mono _ _ _ | exact sF28.mono _ _ | exact sF30.mono _ _ | exact sF31.mono _ _ | exact sF32.mono _ _ | exact sF34.mono _ _ _ | exact sF35.mono _ _ | exact sF36.mono _ _ | exact sF38.mono _ _ | exact LeO.refl _ | exact LeO.none _ | refine LeO.ite ?_ ?_ | refine LeO.bind ?_ (fun _ => ?_)
  ·
   intro y0 y1 y2 y3 y4 y5
   unfold wF23.j8
   repeat' with_reducible first | exact ih0 _ _ _ _ _ | exact ih1 _ _ _ _ _ _ _ | exact ih2 _ _ _ _ _ _ _ _ _ | exact ih3 _ _ _ _ _ _ _ _ | exact ih4 _ _ _ _ _ _ _ _ _ _ _ _ | exact ih5 _ _ _ _ _ _ _ _ _ _ _ _ _ _ | exact ih6 _ _ _ _ _ _ _ _ _ | exact ih7 _ _ _ _ _ _ _ _ _ | exact ih8 _ _ _ _ _ _ | exact ih9 _ _ _ _ _ | exact ih10 _ _ _ _ _ _ | exact ih11 _ _ _ | exact iF4.mono _ _ _ | exact iF6.mono _ _ | exact iF7.mono _ _ _ | exact iF8.mono _ _ _ | exact iF9.mono _ _ | exact iF10.mono _ _ | exact iF12.mono _ _ | exact iF13.mono _ _ | exact wF25.mono _ _ _ | exact wF26.mono _ _ _ | exact sF27.mono _ _ _ | exact sF28.mono _ _ | exact sF30.mono _ _ | exact sF31.mono _ _ | exact sF32.mono _ _ | exact sF34.mono _ _ _ | exact sF35.mono _ _ | exact sF36.mono _ _ | exact sF38.mono _ _ | exact LeO.refl _ | exact LeO.none _ | refine LeO.ite ?_ ?_ | refine LeO.bind ?_ (fun _ => ?_)
  ·
   intro y0 y1 y2 y3 y4
   unfold wF23.j9
   repeat' with_reducible first | exact ih0 _ _ _ _ _ | exact ih1 _ _ _ _ _ _ _ | exact ih2 _ _ _ _ _ _ _ _ _ | exact ih3 _ _ _ _ _ _ _ _ | exact ih4 _ _ _ _ _ _ _ _ _ _ _ _ | exact ih5 _ _ _ _ _ _ _ _ _ _ _ _ _ _ | exact ih6 _ _ _ _ _ _ _ _ _ | exact ih7 _ _ _ _ _ _ _ _ _ | exact ih8 _ _ _ _ _ _ | exact ih9 _ _ _ _ _ | exact ih10 _ _ _ _ _ _ | exact ih11 _ _ _ | exact iF4.mono _ _ _ | exact iF6.mono _ _ | exact iF7.mono _ _ _ | exact iF8.mono _ _ _ | exact iF9.mono _ _ | exact iF10.mono _ _ | exact iF12.mono _ _ | exact iF13.mono _ _ | exact wF25.mono _ _ _ | exact wF26.mono _ _ _ | exact sF27.mono _ _ _ | exact sF28.mono _ _ | exact sF30.mono _ _ | exact sF31.mono _ _ | exact sF32.mono _ _ | exact sF34.mono _ _ _ | exact sF35.mono _ _ | exact sF36.mono _ _ | exact sF38.mono _ _ | exact LeO.refl _ | exact LeO.none _ | refine LeO.ite ?_ ?_ | refine LeO.bind ?_ (fun _ => ?_)
  ·
   intro y0 y1 y2 y3 y4 y5
   unfold wF23.l0
   repeat' with_reducible first | exact ih0 _ _ _ _ _ | exact ih1 _ _ _ _ _ _ _ | exact ih2 _ _ _ _ _ _ _ _ _ | exact ih3 _ _ _ _ _ _ _ _ | exact ih4 _ _ _ _ _ _ _ _ _ _ _ _ | exact ih5 _ _ _ _ _ _ _ _ _ _ _ _ _ _ | exact ih6 _ _ _ _ _ _ _ _ _ | exact ih7 _ _ _ _ _ _ _ _ _ | exact ih8 _ _ _ _ _ _ | exact ih9 _ _ _ _ _ | exact ih10 _ _ _ _ _ _ | exact ih11 _ _ _ | exact iF4.mono _ _ _ | exact iF6.mono _ _ | exact iF7.mono _ _ _ | exact iF8.mono _ _ _ | exact iF9.mono _ _ | exact iF10.mono _ _ | exact iF12.mono _ _ | exact iF13.mono _ _ | exact wF25.mono _ _ _ | exact wF26.mono _ _ _ | exact sF27.mono _ _ _ | exact sF28.mono _ _ | exact sF30.mono _ _ | exact sF31.mono _ _ | exact sF32.mono _ _ | exact sF34.mono _ _ _ | exact sF35.mono _ _ | exact sF36.mono _ _ | exact sF38.mono _ _ | exact LeO.refl _ | exact LeO.none _ | refine LeO.ite ?_ ?_ | refine LeO.bind ?_ (fun _ => ?_)
  intro y0 y1 y2
  unfold wF23.l1
  repeat' with_reducible first | exact ih0 _ _ _ _ _ | exact ih1 _ _ _ _ _ _ _ | exact ih2 _ _ _ _ _ _ _ _ _ | exact ih3 _ _ _ _ _ _ _ _ | exact ih4 _ _ _ _ _ _ _ _ _ _ _ _ | exact ih5 _ _ _ _ _ _ _ _ _ _ _ _ _ _ | exact ih6 _ _ _ _ _ _ _ _ _ | exact ih7 _ _ _ _ _ _ _ _ _ | exact ih8 _ _ _ _ _ _ | exact ih9 _ _ _ _ _ | exact ih10 _ _ _ _ _ _ | exact ih11 _ _ _ | exact iF4.mono _ _ _ | exact iF6.mono _ _ | exact iF7.mono _ _ _ | exact iF8.mono _ _ _ | exact iF9.mono _ _ | exact iF10.mono _ _ | exact iF12.mono _ _ | exact iF13.mono _ _ | exact wF25.mono _ _ _ | exact wF26.mono _ _ _ | exact sF27.mono _ _ _ | exact sF28.mono _ _ | exact sF30.mono _ _ | exact sF31.mono _ _ | exact sF32.mono _ _ | exact sF34.mono _ _ _ | exact sF35.mono _ _ | exact sF36.mono _ _ | exact sF38.mono _ _ | exact LeO.refl _ | exact LeO.none _ | refine LeO.ite ?_ ?_ | refine LeO.bind ?_ (fun _ => ?_)
theorem wF23.mono : ∀ a0 k, LeO (wF23.f k a0) (wF23.f (k + 1) a0) := by
 intro a0 k
 obtain ⟨ih0, ih1, ih2, ih3, ih4, ih5, ih6, ih7, ih8, ih9, ih10, ih11⟩ := wF23.mono_l k
 unfold wF23.f
 repeat' with_reducible first | exact ih0 _ _ _ _ _ | exact ih1 _ _ _ _ _ _ _ | exact ih2 _ _ _ _ _ _ _ _ _ | exact ih3 _ _ _ _ _ _ _ _ | exact ih4 _ _ _ _ _ _ _ _ _ _ _ _ | exact ih5 _ _ _ _ _ _ _ _ _ _ _ _ _ _ | exact ih6 _ _ _ _ _ _ _ _ _ | exact ih7 _ _ _ _ _ _ _ _ _ | exact ih8 _ _ _ _ _ _ | exact ih9 _ _ _ _ _ | exact ih10 _ _ _ _ _ _ | exact ih11 _ _ _ | exact iF4.mono _ _ _ | exact iF6.mono _ _ | exact iF7.mono _ _ _ | exact iF8.mono _ _ _ | exact iF9.mono _ _ | exact iF10.mono _ _ | exact iF12.mono _ _ | exact iF13.mono _ _ | exact wF25.mono _ _ _ | exact wF26.mono _ _ _ | exact sF27.mono _ _ _ | exact sF28.mono _ _ | exact sF30.mono _ _ | exact sF31.mono _ _ | exact sF32.mono _ _ | exact sF34.mono _ _ _ | exact sF35.mono _ _ | exact sF36.mono _ _ | exact sF38.mono _ _ | exact LeO.refl _ | exact LeO.none _ | refine LeO.ite ?_ ?_ | refine LeO.bind ?_ (fun _ => ?_)
def wF23.T57 : Bool × List (List Nat × List Nat) := (true, [([], []), ([], []), ([0, 1], [0, 1]), ([2], [2]), ([3], [3]), ([4], [4]), ([5], [5]), ([6], [6]), ([7], [7]), ([7], [7]), ([8, 9, 7], [7, 8, 9]), ([10, 7], [7, 10]), ([7], [7]), ([11, 12, 7], [7, 11, 12]), ([7], [7]), ([7], [7]), ([14, 15, 7], [7, 14, 15]), ([16, 7], [7, 16]), ([7], [7]), ([17, 18, 7], [7, 17, 18]), ([13, 19, 7], [7, 13, 19]), ([7, 20], [7, 20]), ([21, 7], [21]), ([22], [22]), ([22], [22]), ([22], [22]), ([24, 25, 22], [22, 24, 25]), ([26, 22], [22, 26]), ([23, 27, 22, 22], [22, 23, 27]), ([28, 22], [22, 28]), ([22, 29], [22, 29])])
def wF23.B57 : List Nat := [0, 0, 3, 7, 15, 31, 63, 127, 255, 255, 1023, 2047, 255, 8191, 255, 255, 49407, 114943, 255, 508159, 1048575, 2097151, 4194303, 8388607, 8388607, 8388607, 58720255, 125829119, 268435455, 536870911, 1073741823]
theorem wF23.tab57 : rtab .any (opsOf Tryz.f4 57) = wF23.T57 := by kernel_rfl
theorem wF23.bits57 : waitsOk wF23.T57.2 wF23.B57 = true := by kernel_rfl
theorem wF23.calls (k : Nat) (A0 : Option Addr) (c0 : Nat) (l0 : List Int) (w : World) (hM : xF56.Met w) (hr0 : Kd.C (Kd.int .u8) w A0 l0.length l0) (hc0 : l0.length ≤ c0) (h : wF23.f k l0 = some true) :
  Calls Tryz.prog 4 #[.slice A0 l0.length c0] w fun e w' => e = .returned (.bool true) ∧ Below w.heap.size w w' := by
 have HR0 := Aside0.mk hr0
 have HC0 := Aside0.mk hc0
 clear hr0 hc0
 have HB := Aside0.mk (Below.refl w.heap.size w)
 have HM := Aside0.mk hM
 have HM2 : Aside0 (iF4.Met w) := Aside0.mk hM
 clear hM
 have H : ((wF24.f l0).bind fun t607 => (if t607 = true then (some true) else ((sF30.f k l0).bind fun t608 => ((iF6.f k t608).bind fun bt609 => ((sF32.f k t608).bind fun bt611 => (if bt609.1.toList = bt611.1.toList then (wF23.j0 k l0 t608 bt609.1 bt609.2 (bt609.2 != bt611.2)) else (wF23.j0 k l0 t608 bt609.1 bt609.2 true))))))) = some true := h
 clear h
 replace H := Option.bind_eq_some_iff.mp H
 obtain ⟨t607, A20, H⟩ := H
 replace H : (if t607 = true then (some true) else ((sF30.f k l0).bind fun t608 => ((iF6.f k t608).bind fun bt609 => ((sF32.f k t608).bind fun bt611 => (if bt609.1.toList = bt611.1.toList then (wF23.j0 k l0 t608 bt609.1 bt609.2 (bt609.2 != bt611.2)) else (wF23.j0 k l0 t608 bt609.1 bt609.2 true)))))) = some true := H
 have A2 := Aside0.mk A20
 clear A20
 by_cases c3 : t607 = true
 ·
  subst c3
  replace H : (some true) = some true := rfl
  first | obtain rfl := Option.some.inj H | clear H
  go_enter Tryz.func4, Tryz.ntmps4
  go_wp2_with (first | ((with_reducible refine gate_callee (f := 5) rfl ?_); refine goesL_ (some 46) rfl rfl Tryz.func5 (by kernel_rfl) rfl #[.slice A0 l0.length c0] rfl (by (try simp only [List.map_toArray, List.map_cons, List.map_nil]); first | done | rfl | (simp only [List.length_drop, List.length_take]; rfl)) ?_; (with_reducible refine (wF24.calls _ _ l0 true _ ?side1 HC0.out A2.out).mono ?_); (case side1 => repeat (first | exact HR0.out | with_reducible first | apply cA_ | apply cN_ | apply cD_)); rintro e w' ⟨rfl, ⟨nd, rfl⟩⟩; refine ⟨_, rfl, ?_⟩))
  go_ret
  exact ⟨by first | rfl | (simp [errW_none, errW_some] <;> rfl) | (simp [*, errW_none, errW_some] <;> rfl), by repeat (first | (with_reducible first | exact HB.out | apply below_alloc | apply pw_below_drewN | apply below_drew1) | exact HB.out)⟩
 replace c3 := Bool.eq_false_iff.mpr c3
 subst c3
 replace H : ((sF30.f k l0).bind fun t608 => ((iF6.f k t608).bind fun bt609 => ((sF32.f k t608).bind fun bt611 => (if bt609.1.toList = bt611.1.toList then (wF23.j0 k l0 t608 bt609.1 bt609.2 (bt609.2 != bt611.2)) else (wF23.j0 k l0 t608 bt609.1 bt609.2 true))))) = some true := by rw [if_neg (show ¬ (false = true) by decide)] at H; exact H
 replace H := Option.bind_eq_some_iff.mp H
 obtain ⟨t608, A40, H⟩ := H
 replace H : ((iF6.f k t608).bind fun bt609 => ((sF32.f k t608).bind fun bt611 => (if bt609.1.toList = bt611.1.toList then (wF23.j0 k l0 t608 bt609.1 bt609.2 (bt609.2 != bt611.2)) else (wF23.j0 k l0 t608 bt609.1 bt609.2 true)))) = some true := H
 have A4 := Aside0.mk A40
 clear A40
 replace H := Option.bind_eq_some_iff.mp H
 obtain ⟨⟨t609, t610⟩, A50, H⟩ := H
 replace H : ((sF32.f k t608).bind fun bt611 => (if t609.toList = bt611.1.toList then (wF23.j0 k l0 t608 t609 t610 (t610 != bt611.2)) else (wF23.j0 k l0 t608 t609 t610 true))) = some true := H
 have A5 := Aside0.mk A50
 clear A50
 replace H := Option.bind_eq_some_iff.mp H
 obtain ⟨⟨t611, t612⟩, A60, H⟩ := H
 replace H : (if t609.toList = t611.toList then (wF23.j0 k l0 t608 t609 t610 (t610 != t612)) else (wF23.j0 k l0 t608 t609 t610 true)) = some true := H
 have A6 := Aside0.mk A60
 clear A60
 have HC7 := Aside0.mk H
 clear H
 go_enter Tryz.func4, Tryz.ntmps4
 go_upto_region 6 with (first | ((with_reducible refine gate_callee (f := 5) rfl ?_); refine goesL_ (some 46) rfl rfl Tryz.func5 (by kernel_rfl) rfl #[.slice A0 l0.length c0] rfl (by (try simp only [List.map_toArray, List.map_cons, List.map_nil]); first | done | rfl | (simp only [List.length_drop, List.length_take]; rfl)) ?_; (with_reducible refine (wF24.calls _ _ l0 false _ ?side1 HC0.out A2.out).mono ?_); (case side1 => repeat (first | exact HR0.out | with_reducible first | apply cA_ | apply cN_ | apply cD_)); rintro e w' ⟨rfl, ⟨nd, rfl⟩⟩; refine ⟨_, rfl, ?_⟩) | ((with_reducible refine gate_callee (f := 26) rfl ?_); refine goesL_ (some 48) rfl rfl Tryz.func26 (by kernel_rfl) rfl #[.slice A0 l0.length c0] rfl (by (try simp only [List.map_toArray, List.map_cons, List.map_nil]); first | done | rfl | (simp only [List.length_drop, List.length_take]; rfl)) ?_; (with_reducible refine (sF30.calls k _ _ l0 t608 _ ?side1 HC0.out A4.out).mono ?_); (case side1 => repeat (first | exact HR0.out | with_reducible first | apply cA_ | apply cN_ | apply cD_)); rintro e w8 ⟨rfl, hb⟩; refine ⟨_, rfl, ?_⟩; have n0_ := Aside0.mk (below_step (by repeat (first | (with_reducible first | exact HB.out | apply below_alloc | apply pw_below_drewN | apply below_drew1) | exact HB.out)) hb); clear HB; have HB := n0_; clear n0_; (try clear hb); (try clear hb2); (try clear hk); (try clear hi)) | ((with_reducible refine gate_callee (f := 27) rfl ?_); refine goesL_ (some 51) rfl rfl Tryz.func27 (by kernel_rfl) rfl #[.string t608] rfl (by (try simp only [List.map_toArray, List.map_cons, List.map_nil]); first | done | rfl | (simp only [List.length_drop, List.length_take]; rfl)) ?_; (with_reducible refine (iF6.calls k t608 t609 t610 _ A5.out).mono ?_); rintro e w9 ⟨rfl, hb⟩; refine ⟨_, rfl, ?_⟩; have n0_ := Aside0.mk (below_step (by repeat (first | (with_reducible first | exact HB.out | apply below_alloc | apply pw_below_drewN | apply below_drew1) | exact HB.out)) hb); clear HB; have HB := n0_; clear n0_; (try clear hb); (try clear hb2); (try clear hk); (try clear hi)) | ((with_reducible refine gate_callee (f := 28) rfl ?_); refine goesL_ (some 56) rfl rfl Tryz.func28 (by kernel_rfl) rfl #[.string t608] rfl (by (try simp only [List.map_toArray, List.map_cons, List.map_nil]); first | done | rfl | (simp only [List.length_drop, List.length_take]; rfl)) ?_; (with_reducible refine (sF32.calls k t608 t611 t612 _ A6.out).mono ?_); rintro e w10 ⟨rfl, hb⟩; refine ⟨_, rfl, ?_⟩; have n0_ := Aside0.mk (below_step (by repeat (first | (with_reducible first | exact HB.out | apply below_alloc | apply pw_below_drewN | apply below_drew1) | exact HB.out)) hb); clear HB; have HB := n0_; clear n0_; (try clear hb); (try clear hb2); (try clear hk); (try clear hi)))
 (try simp only [Act.put, List.setIfInBounds_toArray, List.set_cons_zero, List.set_cons_succ])
 go_cut [66] from 100000 (fun v66 wc => ∃ (kq : Nat) (x66_6 : Bool), v66 = .bool x66_6 ∧ Aside0 (wF23.j0 kq l0 t608 t609 t610 x66_6 = some true) ∧ Aside0 (kq ≤ k) ∧ Aside0 (Below w.heap.size w wc))
 case first =>
  have H := HC7.out
  clear HC7
  by_cases c11 : t609.toList = t611.toList
  ·
   rw [if_pos c11] at H
   have c11b0 : (t609.toList == t611.toList) = true := beq_iff_eq.mpr c11
   have c11b1 : (t609.toList != t611.toList) = false := bne_eq_false_iff_eq.mpr c11
   clear c11
   (first | rw [c11b0] | (simp only [i64_w, i32_w]; rw [c11b0]) | skip)
   have H' := Aside0.mk H
   clear H
   go_wp2
   go_meet
   case rel => exact ⟨_, ((t610 != t612)), (by first | rfl | (simp; done) | (simp [*]; done)), H', ⟨by first | omega | exact Nat.le_refl _⟩, ⟨by repeat (first | (with_reducible first | exact HB.out | apply below_alloc | apply pw_below_drewN | apply below_drew1) | exact HB.out)⟩⟩
  rw [if_neg c11] at H
  have c11b0 : (t609.toList == t611.toList) = false := beq_eq_false_iff_ne.mpr c11
  have c11b1 : (t609.toList != t611.toList) = true := bne_iff_ne.mpr c11
  (first | rw [c11b0] | (simp only [i64_w, i32_w]; rw [c11b0]) | skip)
  have H' := Aside0.mk H
  clear H
  go_wp2
  go_meet
  case rel => exact ⟨_, (true), (by first | rfl | (simp; done) | (simp [*]; done)), H', ⟨by first | omega | exact Nat.le_refl _⟩, ⟨by repeat (first | (with_reducible first | exact HB.out | apply below_alloc | apply pw_below_drewN | apply below_drew1) | exact HB.out)⟩⟩
 as_aux_lemma =>
  clear HC7
  try clear c1
  try clear c2
  try clear p2
  try clear c3
  try clear c4
  try clear c5
  try clear c11
  try clear c11b0
  try clear c11b1
  obtain ⟨kq, x66_6, rfl, HA, HJ6, HB⟩ := hcut
  cases kq with
  | zero => exact absurd HA.out (by simp [wF23.j0])
  | succ kj6 =>
   have H := HA.out
   clear HA
   simp only [wF23.j0] at H
   by_cases c12 : x66_6 = true
   ·
    subst c12
    replace H : (some false) = some true := by rw [if_pos rfl] at H; exact H
    exact absurd (Option.some.inj H) Bool.false_ne_true
   replace c12 := Bool.eq_false_iff.mpr c12
   subst c12
   replace H : ((iF9.f kj6 t608).bind fun bt613 => ((sF35.f kj6 t608).bind fun bt615 => (if bt613.1.toList = bt615.1.toList then (wF23.j1 kj6 l0 t608 t609 t610 bt613.1 bt613.2 (bt613.2 != bt615.2)) else (wF23.j1 kj6 l0 t608 t609 t610 bt613.1 bt613.2 true)))) = some true := by rw [if_neg (show ¬ (false = true) by decide)] at H; exact H
   replace H := Option.bind_eq_some_iff.mp H
   obtain ⟨⟨t613, t614⟩, A130, H⟩ := H
   replace H : ((sF35.f kj6 t608).bind fun bt615 => (if t613.toList = bt615.1.toList then (wF23.j1 kj6 l0 t608 t609 t610 t613 t614 (t614 != bt615.2)) else (wF23.j1 kj6 l0 t608 t609 t610 t613 t614 true))) = some true := H
   have A13 := Aside0.mk A130
   clear A130
   replace H := Option.bind_eq_some_iff.mp H
   obtain ⟨⟨t615, t616⟩, A140, H⟩ := H
   replace H : (if t613.toList = t615.toList then (wF23.j1 kj6 l0 t608 t609 t610 t613 t614 (t614 != t616)) else (wF23.j1 kj6 l0 t608 t609 t610 t613 t614 true)) = some true := H
   have A14 := Aside0.mk A140
   clear A140
   have HC15 := Aside0.mk H
   clear H
   go_upto_region 10 with (first | ((with_reducible refine gate_callee (f := 29) rfl ?_); refine goesL_ (some 69) rfl rfl Tryz.func29 (by kernel_rfl) rfl #[.string t608] rfl (by (try simp only [List.map_toArray, List.map_cons, List.map_nil]); first | done | rfl | (simp only [List.length_drop, List.length_take]; rfl)) ?_; (with_reducible refine (iF9.calls kj6 t608 t613 t614 _ A13.out).mono ?_); rintro e w16 ⟨rfl, hb⟩; refine ⟨_, rfl, ?_⟩; have n0_ := Aside0.mk (below_step (by repeat (first | (with_reducible first | exact HB.out | apply below_alloc | apply pw_below_drewN | apply below_drew1) | exact HB.out)) hb); clear HB; have HB := n0_; clear n0_; (try clear hb); (try clear hb2); (try clear hk); (try clear hi)) | ((with_reducible refine gate_callee (f := 30) rfl ?_); refine goesL_ (some 74) rfl rfl Tryz.func30 (by kernel_rfl) rfl #[.string t608] rfl (by (try simp only [List.map_toArray, List.map_cons, List.map_nil]); first | done | rfl | (simp only [List.length_drop, List.length_take]; rfl)) ?_; (with_reducible refine (sF35.calls kj6 t608 t615 t616 _ A14.out).mono ?_); rintro e w17 ⟨rfl, hb⟩; refine ⟨_, rfl, ?_⟩; have n0_ := Aside0.mk (below_step (by repeat (first | (with_reducible first | exact HB.out | apply below_alloc | apply pw_below_drewN | apply below_drew1) | exact HB.out)) hb); clear HB; have HB := n0_; clear n0_; (try clear hb); (try clear hb2); (try clear hk); (try clear hi)))
   (try simp only [Act.put, List.setIfInBounds_toArray, List.set_cons_zero, List.set_cons_succ])
   go_cut [84] from 100000 (fun v84 wc => ∃ (kq : Nat) (x84_14 : Bool), v84 = .bool x84_14 ∧ Aside0 (wF23.j1 kq l0 t608 t609 t610 t613 t614 x84_14 = some true) ∧ Aside0 (kq ≤ kj6) ∧ Aside0 (Below w.heap.size w wc))
   case first =>
    have H := HC15.out
    clear HC15
    by_cases c18 : t613.toList = t615.toList
    ·
     rw [if_pos c18] at H
     have c18b0 : (t613.toList == t615.toList) = true := beq_iff_eq.mpr c18
     have c18b1 : (t613.toList != t615.toList) = false := bne_eq_false_iff_eq.mpr c18
     clear c18
     (first | rw [c18b0] | (simp only [i64_w, i32_w]; rw [c18b0]) | skip)
     have H' := Aside0.mk H
     clear H
     go_wp2
     go_meet
     case rel => exact ⟨_, ((t614 != t616)), (by first | rfl | (simp; done) | (simp [*]; done)), H', ⟨by have := HJ6.out; first | omega | exact Nat.le_refl _⟩, ⟨by repeat (first | (with_reducible first | exact HB.out | apply below_alloc | apply pw_below_drewN | apply below_drew1) | exact HB.out)⟩⟩
    rw [if_neg c18] at H
    have c18b0 : (t613.toList == t615.toList) = false := beq_eq_false_iff_ne.mpr c18
    have c18b1 : (t613.toList != t615.toList) = true := bne_iff_ne.mpr c18
    (first | rw [c18b0] | (simp only [i64_w, i32_w]; rw [c18b0]) | skip)
    have H' := Aside0.mk H
    clear H
    go_wp2
    go_meet
    case rel => exact ⟨_, (true), (by first | rfl | (simp; done) | (simp [*]; done)), H', ⟨by have := HJ6.out; first | omega | exact Nat.le_refl _⟩, ⟨by repeat (first | (with_reducible first | exact HB.out | apply below_alloc | apply pw_below_drewN | apply below_drew1) | exact HB.out)⟩⟩
   as_aux_lemma =>
    clear HC15
    try clear c1
    try clear c2
    try clear p2
    try clear c3
    try clear c4
    try clear c5
    try clear c11
    try clear c11b0
    try clear c11b1
    try clear c12
    try clear c18
    try clear c18b0
    try clear c18b1
    try clear p2
    obtain ⟨kq, x84_14, rfl, HA, HJ14, HB⟩ := hcut
    cases kq with
    | zero => exact absurd HA.out (by simp [wF23.j1])
    | succ kj14 =>
     have H := HA.out
     clear HA
     simp only [wF23.j1] at H
     by_cases c19 : x84_14 = true
     ·
      subst c19
      replace H : (some false) = some true := by rw [if_pos rfl] at H; exact H
      exact absurd (Option.some.inj H) Bool.false_ne_true
     replace c19 := Bool.eq_false_iff.mpr c19
     subst c19
     replace H : ((iF10.f kj14 t608).bind fun bt617 => ((sF36.f kj14 t608).bind fun bt621 => (if (bt617.2 != bt621.2) = true then (wF23.j2 kj14 l0 t608 t609 t610 t613 t614 bt617.1 bt617.2 true) else ((iF5.f t608).bind fun t625 => (if (bt617.2 != t625) = true then (wF23.j2 kj14 l0 t608 t609 t610 t613 t614 bt617.1 bt617.2 true) else ((wF26.f kj14 bt617.1 bt621.1).bind fun t626 => (wF23.j2 kj14 l0 t608 t609 t610 t613 t614 bt617.1 bt617.2 (!t626)))))))) = some true := by rw [if_neg (show ¬ (false = true) by decide)] at H; exact H
     replace H := Option.bind_eq_some_iff.mp H
     obtain ⟨⟨t617, t618⟩, A200, H⟩ := H
     replace H : ((sF36.f kj14 t608).bind fun bt621 => (if (t618 != bt621.2) = true then (wF23.j2 kj14 l0 t608 t609 t610 t613 t614 t617 t618 true) else ((iF5.f t608).bind fun t625 => (if (t618 != t625) = true then (wF23.j2 kj14 l0 t608 t609 t610 t613 t614 t617 t618 true) else ((wF26.f kj14 t617 bt621.1).bind fun t626 => (wF23.j2 kj14 l0 t608 t609 t610 t613 t614 t617 t618 (!t626))))))) = some true := H
     have A20 := Aside0.mk A200
     clear A200
     replace H := Option.bind_eq_some_iff.mp H
     obtain ⟨⟨t621, t622⟩, A210, H⟩ := H
     replace H : (if (t618 != t622) = true then (wF23.j2 kj14 l0 t608 t609 t610 t613 t614 t617 t618 true) else ((iF5.f t608).bind fun t625 => (if (t618 != t625) = true then (wF23.j2 kj14 l0 t608 t609 t610 t613 t614 t617 t618 true) else ((wF26.f kj14 t617 t621).bind fun t626 => (wF23.j2 kj14 l0 t608 t609 t610 t613 t614 t617 t618 (!t626)))))) = some true := H
     have A21 := Aside0.mk A210
     clear A210
     have HC22 := Aside0.mk H
     clear H
     go_upto_region 14 with (first | ((with_reducible refine gate_callee (f := 31) rfl ?_); refine goesL_ (some 87) rfl rfl Tryz.func31 (by kernel_rfl) rfl #[.string t608] rfl (by (try simp only [List.map_toArray, List.map_cons, List.map_nil]); first | done | rfl | (simp only [List.length_drop, List.length_take]; rfl)) ?_; (with_reducible refine (iF10.calls kj14 t608 t617 t618 _ A20.out).mono ?_); rintro e w23 ⟨v619, rfl, ho0, hb⟩; refine ⟨_, rfl, ?_⟩; have n0_ := Aside0.mk (Kd.R_lower ho0 (below_size (by repeat (first | (with_reducible first | exact HB.out | apply below_alloc | apply pw_below_drewN | apply below_drew1) | exact HB.out)))); have n1_ := Aside0.mk (below_step (by repeat (first | (with_reducible first | exact HB.out | apply below_alloc | apply pw_below_drewN | apply below_drew1) | exact HB.out)) hb); clear HB; have HO620 := n0_; have HB := n1_; clear n0_ n1_; (try clear hb); (try clear hb2); (try clear hk); (try clear hi); (try clear ho0)) | ((with_reducible refine gate_callee (f := 32) rfl ?_); refine goesL_ (some 92) rfl rfl Tryz.func32 (by kernel_rfl) rfl #[.string t608] rfl (by (try simp only [List.map_toArray, List.map_cons, List.map_nil]); first | done | rfl | (simp only [List.length_drop, List.length_take]; rfl)) ?_; (with_reducible refine (sF36.calls kj14 t608 t621 t622 _ A21.out).mono ?_); rintro e w24 ⟨v623, rfl, ho0, hb⟩; refine ⟨_, rfl, ?_⟩; have n0_ := Aside0.mk (Kd.R_elder' (by (with_reducible repeat (first | apply Kd.R_alloc | apply Kd.R_drewN | apply Kd.R_drew)); exact HO620.out) (Kd.R_base ho0) hb); have n1_ := Aside0.mk (Kd.R_lower (Kd.R_new' ho0 (Kd.R_lt (by (with_reducible repeat (first | apply Kd.R_alloc | apply Kd.R_drewN | apply Kd.R_drew)); exact HO620.out))) (below_size (by repeat (first | (with_reducible first | exact HB.out | apply below_alloc | apply pw_below_drewN | apply below_drew1) | exact HB.out)))); have n2_ := Aside0.mk (below_step (by repeat (first | (with_reducible first | exact HB.out | apply below_alloc | apply pw_below_drewN | apply below_drew1) | exact HB.out)) hb); clear HO620; clear HB; have HO620 := n0_; have HO624 := n1_; have HB := n2_; clear n0_ n1_ n2_; (try clear hb); (try clear hb2); (try clear hk); (try clear hi); (try clear ho0)))
     (try simp only [Act.put, List.setIfInBounds_toArray, List.set_cons_zero, List.set_cons_succ])
     go_cut [109] from 100000 (fun v109 wc => ∃ (kq : Nat) (x109_21 : Bool), v109 = .bool x109_21 ∧ Aside0 (wF23.j2 kq l0 t608 t609 t610 t613 t614 t617 t618 x109_21 = some true) ∧ Aside0 (kq ≤ kj14) ∧ Aside0 (Kd.R Kd.string 9 wc w.heap.size (fun _ => True) v619 t617) ∧ Aside0 (Below w.heap.size w wc))
     case first =>
      have H := HC22.out
      clear HC22
      by_cases c25 : (t618 != t622) = true
      ·
       rw [if_pos c25] at H
       have c25b0 : (t618 != t622) = true := c25
       (try (have c25b1 : decide (t618 = t622) = false := by simpa using c25))
       (try (have c25b2 : (t618 == t622) = false := by simpa using c25))
       (try (have c25b3 : ¬ (t618 = t622) := by simpa using c25))
       clear c25
       (first | rw [c25b0] | (simp only [i64_w, i32_w]; rw [c25b0]) | skip)
       have H' := Aside0.mk H
       clear H
       go_wp2
       go_meet
       case rel => exact ⟨_, (true), (by first | rfl | (simp; done) | (simp [*]; done)), H', ⟨by have := HJ6.out; have := HJ14.out; first | omega | exact Nat.le_refl _⟩, ⟨by (with_reducible repeat (first | apply Kd.R_alloc | apply Kd.R_drewN | apply Kd.R_drew)); exact Kd.R_mono HO620.out (fun _ hk => trivial)⟩, ⟨by repeat (first | (with_reducible first | exact HB.out | apply below_alloc | apply pw_below_drewN | apply below_drew1) | exact HB.out)⟩⟩
      rw [if_neg c25] at H
      have c25b0 : (t618 != t622) = false := by simpa using c25
      (try (have c25b1 : decide (t618 = t622) = true := by simpa using c25))
      (try (have c25b2 : (t618 == t622) = true := by simpa using c25))
      clear c25
      (first | rw [c25b0] | (simp only [i64_w, i32_w]; rw [c25b0]) | skip)
      replace H := Option.bind_eq_some_iff.mp H
      obtain ⟨t625, A260, H⟩ := H
      replace H : (if (t618 != t625) = true then (wF23.j2 kj14 l0 t608 t609 t610 t613 t614 t617 t618 true) else ((wF26.f kj14 t617 t621).bind fun t626 => (wF23.j2 kj14 l0 t608 t609 t610 t613 t614 t617 t618 (!t626)))) = some true := H
      have A26 := Aside0.mk A260
      clear A260
      by_cases c27 : (t618 != t625) = true
      ·
       rw [if_pos c27] at H
       have c27b0 : (t618 != t625) = true := c27
       (try (have c27b1 : decide (t618 = t625) = false := by simpa using c27))
       (try (have c27b2 : (t618 == t625) = false := by simpa using c27))
       (try (have c27b3 : ¬ (t618 = t625) := by simpa using c27))
       clear c27
       have H' := Aside0.mk H
       clear H
       go_wp2_with (first | (go_at_call 9; (with_reducible refine (iF5.calls t608 t625 _ A26.out).mono ?_); rintro e w28 ⟨rfl, hb⟩; have n0_ := Aside0.mk (Kd.R_below (by (with_reducible repeat (first | apply Kd.R_alloc | apply Kd.R_drewN | apply Kd.R_drew)); exact HO620.out) hb); have n1_ := Aside0.mk (Kd.R_below (by (with_reducible repeat (first | apply Kd.R_alloc | apply Kd.R_drewN | apply Kd.R_drew)); exact HO624.out) hb); have n2_ := Aside0.mk (below_step (by repeat (first | (with_reducible first | exact HB.out | apply below_alloc | apply pw_below_drewN | apply below_drew1) | exact HB.out)) hb); clear HO620; clear HO624; clear HB; have HO620 := n0_; have HO624 := n1_; have HB := n2_; clear n0_ n1_ n2_; (try clear hb); (try clear hb2); (try clear hk); (try clear hi)))
       go_meet
       case rel => exact ⟨_, (true), (by first | rfl | (simp; done) | (simp [*]; done)), H', ⟨by have := HJ6.out; have := HJ14.out; first | omega | exact Nat.le_refl _⟩, ⟨by (with_reducible repeat (first | apply Kd.R_alloc | apply Kd.R_drewN | apply Kd.R_drew)); exact Kd.R_mono HO620.out (fun _ hk => trivial)⟩, ⟨by repeat (first | (with_reducible first | exact HB.out | apply below_alloc | apply pw_below_drewN | apply below_drew1) | exact HB.out)⟩⟩
      rw [if_neg c27] at H
      have c27b0 : (t618 != t625) = false := by simpa using c27
      (try (have c27b1 : decide (t618 = t625) = true := by simpa using c27))
      (try (have c27b2 : (t618 == t625) = true := by simpa using c27))
      clear c27
      replace H := Option.bind_eq_some_iff.mp H
      obtain ⟨t626, A290, H⟩ := H
      replace H : (wF23.j2 kj14 l0 t608 t609 t610 t613 t614 t617 t618 (!t626)) = some true := H
      have A29 := Aside0.mk A290
      clear A290
      have H' := Aside0.mk H
      clear H
      go_wp2_with (first | (go_at_call 9; (with_reducible refine (iF5.calls t608 t625 _ A26.out).mono ?_); rintro e w30 ⟨rfl, hb⟩; have n0_ := Aside0.mk (Kd.R_below (by (with_reducible repeat (first | apply Kd.R_alloc | apply Kd.R_drewN | apply Kd.R_drew)); exact HO620.out) hb); have n1_ := Aside0.mk (Kd.R_below (by (with_reducible repeat (first | apply Kd.R_alloc | apply Kd.R_drewN | apply Kd.R_drew)); exact HO624.out) hb); have n2_ := Aside0.mk (below_step (by repeat (first | (with_reducible first | exact HB.out | apply below_alloc | apply pw_below_drewN | apply below_drew1) | exact HB.out)) hb); clear HO620; clear HO624; clear HB; have HO620 := n0_; have HO624 := n1_; have HB := n2_; clear n0_ n1_ n2_; (try clear hb); (try clear hb2); (try clear hk); (try clear hi); obtain ⟨Ao31, co31, eo31⟩ := Kd.R_slice HO620.out; subst eo31; obtain ⟨Ao32, co32, eo32⟩ := Kd.R_slice HO624.out; subst eo32) | (go_at_call 10; (with_reducible refine (wF26.calls kj14 _ _ t617 _ _ t621 t626 _ ?side1 ?side2 ?side3 ?side4 A29.out).mono ?_); (case side1 => repeat (first | exact (Kd.R_reads' HO620.out).2.2 | with_reducible first | apply cA_ | apply cN_ | apply cD_)); (case side2 => exact (Kd.R_reads' HO620.out).2.1); (case side3 => repeat (first | exact (Kd.R_reads' HO624.out).2.2 | with_reducible first | apply cA_ | apply cN_ | apply cD_)); (case side4 => exact (Kd.R_reads' HO624.out).2.1); rintro e w' ⟨rfl, ⟨nd, rfl⟩⟩))
      go_meet
      case rel => exact ⟨_, (!t626), (by first | rfl | (simp; done) | (simp [*]; done)), H', ⟨by have := HJ6.out; have := HJ14.out; first | omega | exact Nat.le_refl _⟩, ⟨by (with_reducible repeat (first | apply Kd.R_alloc | apply Kd.R_drewN | apply Kd.R_drew)); exact Kd.R_mono HO620.out (fun _ hk => trivial)⟩, ⟨by repeat (first | (with_reducible first | exact HB.out | apply below_alloc | apply pw_below_drewN | apply below_drew1) | exact HB.out)⟩⟩
     as_aux_lemma =>
      clear HC22
      try clear c1
      try clear c2
      try clear p2
      try clear c3
      try clear c4
      try clear c5
      try clear c11
      try clear c11b0
      try clear c11b1
      try clear c12
      try clear c18
      try clear c18b0
      try clear c18b1
      try clear c19
      try clear c25
      try clear c25b0
      try clear c25b1
      try clear c25b2
      try clear c26
      try clear c27
      try clear c27b0
      try clear c27b1
      try clear c27b2
      try clear c28
      try clear c29
      try clear c30
      try clear c31
      try clear c32
      try clear p2
      obtain ⟨kq, x109_21, rfl, HA, HJ21, HO_12, HB⟩ := hcut
      cases kq with
      | zero => exact absurd HA.out (by simp [wF23.j2])
      | succ kj21 =>
       have H := HA.out
       clear HA
       simp only [wF23.j2] at H
       by_cases c33 : x109_21 = true
       ·
        subst c33
        replace H : (some false) = some true := by rw [if_pos rfl] at H; exact H
        exact absurd (Option.some.inj H) Bool.false_ne_true
       replace c33 := Bool.eq_false_iff.mpr c33
       subst c33
       replace H : ((iF13.f kj21 t608).bind fun bt627 => ((sF38.f kj21 t608).bind fun bt631 => (if (bt627.2 != bt631.2) = true then (wF23.j3 kj21 l0 t608 t609 t610 t613 t614 t617 true) else (if (bt627.2 != t618) = true then (wF23.j3 kj21 l0 t608 t609 t610 t613 t614 t617 true) else ((wF26.f kj21 bt627.1 bt631.1).bind fun t635 => (if t635 = true then (if bt627.2 = true then (wF23.j3 kj21 l0 t608 t609 t610 t613 t614 t617 (decide ((bt627.1.length : Int) > (t608.size : Int)))) else (wF23.j3 kj21 l0 t608 t609 t610 t613 t614 t617 false)) else (wF23.j3 kj21 l0 t608 t609 t610 t613 t614 t617 true))))))) = some true := by rw [if_neg (show ¬ (false = true) by decide)] at H; exact H
       replace H := Option.bind_eq_some_iff.mp H
       obtain ⟨⟨t627, t628⟩, A340, H⟩ := H
       replace H : ((sF38.f kj21 t608).bind fun bt631 => (if (t628 != bt631.2) = true then (wF23.j3 kj21 l0 t608 t609 t610 t613 t614 t617 true) else (if (t628 != t618) = true then (wF23.j3 kj21 l0 t608 t609 t610 t613 t614 t617 true) else ((wF26.f kj21 t627 bt631.1).bind fun t635 => (if t635 = true then (if t628 = true then (wF23.j3 kj21 l0 t608 t609 t610 t613 t614 t617 (decide ((t627.length : Int) > (t608.size : Int)))) else (wF23.j3 kj21 l0 t608 t609 t610 t613 t614 t617 false)) else (wF23.j3 kj21 l0 t608 t609 t610 t613 t614 t617 true)))))) = some true := H
       have A34 := Aside0.mk A340
       clear A340
       replace H := Option.bind_eq_some_iff.mp H
       obtain ⟨⟨t631, t632⟩, A350, H⟩ := H
       replace H : (if (t628 != t632) = true then (wF23.j3 kj21 l0 t608 t609 t610 t613 t614 t617 true) else (if (t628 != t618) = true then (wF23.j3 kj21 l0 t608 t609 t610 t613 t614 t617 true) else ((wF26.f kj21 t627 t631).bind fun t635 => (if t635 = true then (if t628 = true then (wF23.j3 kj21 l0 t608 t609 t610 t613 t614 t617 (decide ((t627.length : Int) > (t608.size : Int)))) else (wF23.j3 kj21 l0 t608 t609 t610 t613 t614 t617 false)) else (wF23.j3 kj21 l0 t608 t609 t610 t613 t614 t617 true))))) = some true := H
       have A35 := Aside0.mk A350
       clear A350
       have HC36 := Aside0.mk H
       clear H
       go_upto_region 18 with (first | ((with_reducible refine gate_callee (f := 33) rfl ?_); refine goesL_ (some 112) rfl rfl Tryz.func33 (by kernel_rfl) rfl #[.string t608] rfl (by (try simp only [List.map_toArray, List.map_cons, List.map_nil]); first | done | rfl | (simp only [List.length_drop, List.length_take]; rfl)) ?_; (with_reducible refine (iF13.calls kj21 t608 t627 t628 _ A34.out).mono ?_); rintro e w37 ⟨v629, rfl, ho0, hb⟩; refine ⟨_, rfl, ?_⟩; have n0_ := Aside0.mk (Kd.R_elder' (by (with_reducible repeat (first | apply Kd.R_alloc | apply Kd.R_drewN | apply Kd.R_drew)); exact HO_12.out) (Kd.R_base ho0) hb); have n1_ := Aside0.mk (Kd.R_lower (Kd.R_new' ho0 (Kd.R_lt (by (with_reducible repeat (first | apply Kd.R_alloc | apply Kd.R_drewN | apply Kd.R_drew)); exact HO_12.out))) (below_size (by repeat (first | (with_reducible first | exact HB.out | apply below_alloc | apply pw_below_drewN | apply below_drew1) | exact HB.out)))); have n2_ := Aside0.mk (below_step (by repeat (first | (with_reducible first | exact HB.out | apply below_alloc | apply pw_below_drewN | apply below_drew1) | exact HB.out)) hb); clear HO_12; clear HB; have HO_12 := n0_; have HO630 := n1_; have HB := n2_; clear n0_ n1_ n2_; (try clear hb); (try clear hb2); (try clear hk); (try clear hi); (try clear ho0)) | ((with_reducible refine gate_callee (f := 34) rfl ?_); refine goesL_ (some 117) rfl rfl Tryz.func34 (by kernel_rfl) rfl #[.string t608] rfl (by (try simp only [List.map_toArray, List.map_cons, List.map_nil]); first | done | rfl | (simp only [List.length_drop, List.length_take]; rfl)) ?_; (with_reducible refine (sF38.calls kj21 t608 t631 t632 _ A35.out).mono ?_); rintro e w38 ⟨v633, rfl, ho0, hb⟩; refine ⟨_, rfl, ?_⟩; have n0_ := Aside0.mk (Kd.R_elder' (by (with_reducible repeat (first | apply Kd.R_alloc | apply Kd.R_drewN | apply Kd.R_drew)); exact HO_12.out) (Kd.R_base ho0) hb); have n1_ := Aside0.mk (Kd.R_elder' (by (with_reducible repeat (first | apply Kd.R_alloc | apply Kd.R_drewN | apply Kd.R_drew)); exact HO630.out) (Kd.R_base ho0) hb); have n2_ := Aside0.mk (Kd.R_lower (Kd.R_new' (Kd.R_new' ho0 (Kd.R_lt (by (with_reducible repeat (first | apply Kd.R_alloc | apply Kd.R_drewN | apply Kd.R_drew)); exact HO_12.out))) (Kd.R_lt (by (with_reducible repeat (first | apply Kd.R_alloc | apply Kd.R_drewN | apply Kd.R_drew)); exact HO630.out))) (below_size (by repeat (first | (with_reducible first | exact HB.out | apply below_alloc | apply pw_below_drewN | apply below_drew1) | exact HB.out)))); have n3_ := Aside0.mk (below_step (by repeat (first | (with_reducible first | exact HB.out | apply below_alloc | apply pw_below_drewN | apply below_drew1) | exact HB.out)) hb); clear HO_12; clear HO630; clear HB; have HO_12 := n0_; have HO630 := n1_; have HO634 := n2_; have HB := n3_; clear n0_ n1_ n2_ n3_; (try clear hb); (try clear hb2); (try clear hk); (try clear hi); (try clear ho0)))
       (try simp only [Act.put, List.setIfInBounds_toArray, List.set_cons_zero, List.set_cons_succ])
       go_cut [143] from 100000 (fun v143 wc => ∃ (kq : Nat) (x143_35 : Bool), v143 = .bool x143_35 ∧ Aside0 (wF23.j3 kq l0 t608 t609 t610 t613 t614 t617 x143_35 = some true) ∧ Aside0 (kq ≤ kj21) ∧ Aside0 (Kd.R Kd.string 9 wc w.heap.size (fun _ => True) v619 t617) ∧ Aside0 (Below w.heap.size w wc))
       case first =>
        have H := HC36.out
        clear HC36
        by_cases c39 : (t628 != t632) = true
        ·
         rw [if_pos c39] at H
         have c39b0 : (t628 != t632) = true := c39
         (try (have c39b1 : decide (t628 = t632) = false := by simpa using c39))
         (try (have c39b2 : (t628 == t632) = false := by simpa using c39))
         (try (have c39b3 : ¬ (t628 = t632) := by simpa using c39))
         clear c39
         (first | rw [c39b0] | (simp only [i64_w, i32_w]; rw [c39b0]) | skip)
         have H' := Aside0.mk H
         clear H
         go_wp2
         go_meet
         case rel => exact ⟨_, (true), (by first | rfl | (simp; done) | (simp [*]; done)), H', ⟨by have := HJ6.out; have := HJ14.out; have := HJ21.out; first | omega | exact Nat.le_refl _⟩, ⟨by (with_reducible repeat (first | apply Kd.R_alloc | apply Kd.R_drewN | apply Kd.R_drew)); exact Kd.R_mono HO_12.out (fun _ hk => trivial)⟩, ⟨by repeat (first | (with_reducible first | exact HB.out | apply below_alloc | apply pw_below_drewN | apply below_drew1) | exact HB.out)⟩⟩
        rw [if_neg c39] at H
        have c39b0 : (t628 != t632) = false := by simpa using c39
        (try (have c39b1 : decide (t628 = t632) = true := by simpa using c39))
        (try (have c39b2 : (t628 == t632) = true := by simpa using c39))
        clear c39
        (first | rw [c39b0] | (simp only [i64_w, i32_w]; rw [c39b0]) | skip)
        by_cases c40 : (t628 != t618) = true
        ·
         rw [if_pos c40] at H
         have c40b0 : (t628 != t618) = true := c40
         (try (have c40b1 : decide (t628 = t618) = false := by simpa using c40))
         (try (have c40b2 : (t628 == t618) = false := by simpa using c40))
         (try (have c40b3 : ¬ (t628 = t618) := by simpa using c40))
         clear c40
         have H' := Aside0.mk H
         clear H
         go_wp2
         go_meet
         case rel => exact ⟨_, (true), (by first | rfl | (simp; done) | (simp [*]; done)), H', ⟨by have := HJ6.out; have := HJ14.out; have := HJ21.out; first | omega | exact Nat.le_refl _⟩, ⟨by (with_reducible repeat (first | apply Kd.R_alloc | apply Kd.R_drewN | apply Kd.R_drew)); exact Kd.R_mono HO_12.out (fun _ hk => trivial)⟩, ⟨by repeat (first | (with_reducible first | exact HB.out | apply below_alloc | apply pw_below_drewN | apply below_drew1) | exact HB.out)⟩⟩
        rw [if_neg c40] at H
        have c40b0 : (t628 != t618) = false := by simpa using c40
        (try (have c40b1 : decide (t628 = t618) = true := by simpa using c40))
        (try (have c40b2 : (t628 == t618) = true := by simpa using c40))
        clear c40
        replace H := Option.bind_eq_some_iff.mp H
        obtain ⟨t635, A410, H⟩ := H
        replace H : (if t635 = true then (if t628 = true then (wF23.j3 kj21 l0 t608 t609 t610 t613 t614 t617 (decide ((t627.length : Int) > (t608.size : Int)))) else (wF23.j3 kj21 l0 t608 t609 t610 t613 t614 t617 false)) else (wF23.j3 kj21 l0 t608 t609 t610 t613 t614 t617 true)) = some true := H
        have A41 := Aside0.mk A410
        clear A410
        by_cases c42 : t635 = true
        rotate_left
        ·
         replace c42 := Bool.eq_false_iff.mpr c42
         subst c42
         replace H : (wF23.j3 kj21 l0 t608 t609 t610 t613 t614 t617 true) = some true := by rw [if_neg (show ¬ (false = true) by decide)] at H; exact H
         have H' := Aside0.mk H
         clear H
         obtain ⟨Ao48, co48, eo48⟩ := Kd.R_slice HO630.out
         subst eo48
         obtain ⟨Ao49, co49, eo49⟩ := Kd.R_slice HO634.out
         subst eo49
         go_wp2_with (first | (go_at_call 10; (with_reducible refine (wF26.calls kj21 _ _ t627 _ _ t631 false _ ?side1 ?side2 ?side3 ?side4 A41.out).mono ?_); (case side1 => repeat (first | exact (Kd.R_reads' HO630.out).2.2 | with_reducible first | apply cA_ | apply cN_ | apply cD_)); (case side2 => exact (Kd.R_reads' HO630.out).2.1); (case side3 => repeat (first | exact (Kd.R_reads' HO634.out).2.2 | with_reducible first | apply cA_ | apply cN_ | apply cD_)); (case side4 => exact (Kd.R_reads' HO634.out).2.1); rintro e w' ⟨rfl, ⟨nd, rfl⟩⟩))
         go_meet
         case rel => exact ⟨_, (true), (by first | rfl | (simp; done) | (simp [*]; done)), H', ⟨by have := HJ6.out; have := HJ14.out; have := HJ21.out; first | omega | exact Nat.le_refl _⟩, ⟨by (with_reducible repeat (first | apply Kd.R_alloc | apply Kd.R_drewN | apply Kd.R_drew)); exact Kd.R_mono HO_12.out (fun _ hk => trivial)⟩, ⟨by repeat (first | (with_reducible first | exact HB.out | apply below_alloc | apply pw_below_drewN | apply below_drew1) | exact HB.out)⟩⟩
        subst c42
        replace H : (if t628 = true then (wF23.j3 kj21 l0 t608 t609 t610 t613 t614 t617 (decide ((t627.length : Int) > (t608.size : Int)))) else (wF23.j3 kj21 l0 t608 t609 t610 t613 t614 t617 false)) = some true := by rw [if_pos rfl] at H; exact H
        by_cases c43 : t628 = true
        ·
         subst c43
         replace H : (wF23.j3 kj21 l0 t608 t609 t610 t613 t614 t617 (decide ((t627.length : Int) > (t608.size : Int)))) = some true := by rw [if_pos rfl] at H; exact H
         have H' := Aside0.mk H
         clear H
         obtain ⟨Ao44, co44, eo44⟩ := Kd.R_slice HO630.out
         subst eo44
         obtain ⟨Ao45, co45, eo45⟩ := Kd.R_slice HO634.out
         subst eo45
         go_wp2_with (first | (go_at_call 10; (with_reducible refine (wF26.calls kj21 _ _ t627 _ _ t631 true _ ?side1 ?side2 ?side3 ?side4 A41.out).mono ?_); (case side1 => repeat (first | exact (Kd.R_reads' HO630.out).2.2 | with_reducible first | apply cA_ | apply cN_ | apply cD_)); (case side2 => exact (Kd.R_reads' HO630.out).2.1); (case side3 => repeat (first | exact (Kd.R_reads' HO634.out).2.2 | with_reducible first | apply cA_ | apply cN_ | apply cD_)); (case side4 => exact (Kd.R_reads' HO634.out).2.1); rintro e w' ⟨rfl, ⟨nd, rfl⟩⟩))
         go_meet
         case rel => exact ⟨_, (decide ((t627.length : Int) > (t608.size : Int))), (by first | rfl | (simp; done) | (simp [*]; done)), H', ⟨by have := HJ6.out; have := HJ14.out; have := HJ21.out; first | omega | exact Nat.le_refl _⟩, ⟨by (with_reducible repeat (first | apply Kd.R_alloc | apply Kd.R_drewN | apply Kd.R_drew)); exact Kd.R_mono HO_12.out (fun _ hk => trivial)⟩, ⟨by repeat (first | (with_reducible first | exact HB.out | apply below_alloc | apply pw_below_drewN | apply below_drew1) | exact HB.out)⟩⟩
        replace c43 := Bool.eq_false_iff.mpr c43
        subst c43
        replace H : (wF23.j3 kj21 l0 t608 t609 t610 t613 t614 t617 false) = some true := by rw [if_neg (show ¬ (false = true) by decide)] at H; exact H
        have H' := Aside0.mk H
        clear H
        obtain ⟨Ao46, co46, eo46⟩ := Kd.R_slice HO630.out
        subst eo46
        obtain ⟨Ao47, co47, eo47⟩ := Kd.R_slice HO634.out
        subst eo47
        go_wp2_with (first | (go_at_call 10; (with_reducible refine (wF26.calls kj21 _ _ t627 _ _ t631 true _ ?side1 ?side2 ?side3 ?side4 A41.out).mono ?_); (case side1 => repeat (first | exact (Kd.R_reads' HO630.out).2.2 | with_reducible first | apply cA_ | apply cN_ | apply cD_)); (case side2 => exact (Kd.R_reads' HO630.out).2.1); (case side3 => repeat (first | exact (Kd.R_reads' HO634.out).2.2 | with_reducible first | apply cA_ | apply cN_ | apply cD_)); (case side4 => exact (Kd.R_reads' HO634.out).2.1); rintro e w' ⟨rfl, ⟨nd, rfl⟩⟩))
        go_meet
        case rel => exact ⟨_, (false), (by first | rfl | (simp; done) | (simp [*]; done)), H', ⟨by have := HJ6.out; have := HJ14.out; have := HJ21.out; first | omega | exact Nat.le_refl _⟩, ⟨by (with_reducible repeat (first | apply Kd.R_alloc | apply Kd.R_drewN | apply Kd.R_drew)); exact Kd.R_mono HO_12.out (fun _ hk => trivial)⟩, ⟨by repeat (first | (with_reducible first | exact HB.out | apply below_alloc | apply pw_below_drewN | apply below_drew1) | exact HB.out)⟩⟩
       as_aux_lemma =>
        clear HC36
        try clear c1
        try clear c2
        try clear p2
        try clear c3
        try clear c4
        try clear c5
        try clear c11
        try clear c11b0
        try clear c11b1
        try clear c12
        try clear c18
        try clear c18b0
        try clear c18b1
        try clear c19
        try clear c25
        try clear c25b0
        try clear c25b1
        try clear c25b2
        try clear c26
        try clear c27
        try clear c27b0
        try clear c27b1
        try clear c27b2
        try clear c28
        try clear c29
        try clear c30
        try clear c31
        try clear c32
        try clear c33
        try clear c34
        try clear c39
        try clear c39b0
        try clear c39b1
        try clear c39b2
        try clear c40
        try clear c40b0
        try clear c40b1
        try clear c40b2
        try clear c42
        try clear c43
        try clear p2
        obtain ⟨kq, x143_35, rfl, HA, HJ35, HO_12, HB⟩ := hcut
        cases kq with
        | zero => exact absurd HA.out (by simp [wF23.j3])
        | succ kj35 =>
         have H := HA.out
         clear HA
         simp only [wF23.j3] at H
         by_cases c50 : x143_35 = true
         ·
          subst c50
          replace H : (some false) = some true := by rw [if_pos rfl] at H; exact H
          exact absurd (Option.some.inj H) Bool.false_ne_true
         replace c50 := Bool.eq_false_iff.mpr c50
         subst c50
         replace H : ((sF28.f kj35 l0).bind fun bt636 => ((iF4.f kj35 bt636.1 bt636.2).bind fun bt638 => ((sF27.f kj35 bt636.1 bt636.2).bind fun bt640 => (if bt638.1.toList = bt640.1.toList then (wF23.j4 kj35 l0 t608 t609 t610 t613 t614 t617 bt636.1 bt636.2 bt638.1 bt638.2 (bt638.2 != bt640.2)) else (wF23.j4 kj35 l0 t608 t609 t610 t613 t614 t617 bt636.1 bt636.2 bt638.1 bt638.2 true))))) = some true := by rw [if_neg (show ¬ (false = true) by decide)] at H; exact H
         replace H := Option.bind_eq_some_iff.mp H
         obtain ⟨⟨t636, t637⟩, A510, H⟩ := H
         replace H : ((iF4.f kj35 t636 t637).bind fun bt638 => ((sF27.f kj35 t636 t637).bind fun bt640 => (if bt638.1.toList = bt640.1.toList then (wF23.j4 kj35 l0 t608 t609 t610 t613 t614 t617 t636 t637 bt638.1 bt638.2 (bt638.2 != bt640.2)) else (wF23.j4 kj35 l0 t608 t609 t610 t613 t614 t617 t636 t637 bt638.1 bt638.2 true)))) = some true := H
         have A51 := Aside0.mk A510
         clear A510
         replace H := Option.bind_eq_some_iff.mp H
         obtain ⟨⟨t638, t639⟩, A520, H⟩ := H
         replace H : ((sF27.f kj35 t636 t637).bind fun bt640 => (if t638.toList = bt640.1.toList then (wF23.j4 kj35 l0 t608 t609 t610 t613 t614 t617 t636 t637 t638 t639 (t639 != bt640.2)) else (wF23.j4 kj35 l0 t608 t609 t610 t613 t614 t617 t636 t637 t638 t639 true))) = some true := H
         have A52 := Aside0.mk A520
         clear A520
         replace H := Option.bind_eq_some_iff.mp H
         obtain ⟨⟨t640, t641⟩, A530, H⟩ := H
         replace H : (if t638.toList = t640.toList then (wF23.j4 kj35 l0 t608 t609 t610 t613 t614 t617 t636 t637 t638 t639 (t639 != t641)) else (wF23.j4 kj35 l0 t608 t609 t610 t613 t614 t617 t636 t637 t638 t639 true)) = some true := H
         have A53 := Aside0.mk A530
         clear A530
         have HC54 := Aside0.mk H
         clear H
         go_upto_region 23 with (first | ((with_reducible refine gate_callee (f := 35) rfl ?_); refine goesL_ (some 146) rfl rfl Tryz.func35 (by kernel_rfl) rfl #[.slice A0 l0.length c0] rfl (by (try simp only [List.map_toArray, List.map_cons, List.map_nil]); first | done | rfl | (simp only [List.length_drop, List.length_take]; rfl)) ?_; (with_reducible refine (sF28.calls kj35 _ _ l0 t636 t637 _ ?side1 HC0.out A51.out).mono ?_); (case side1 => repeat (first | exact (Kd.C_below HR0.out HB.out) | with_reducible first | apply cA_ | apply cN_ | apply cD_)); rintro e w55 ⟨rfl, hb⟩; refine ⟨_, rfl, ?_⟩; have n0_ := Aside0.mk (Kd.R_below (by (with_reducible repeat (first | apply Kd.R_alloc | apply Kd.R_drewN | apply Kd.R_drew)); exact HO_12.out) hb); have n1_ := Aside0.mk (below_step (by repeat (first | (with_reducible first | exact HB.out | apply below_alloc | apply pw_below_drewN | apply below_drew1) | exact HB.out)) hb); clear HO_12; clear HB; have HO_12 := n0_; have HB := n1_; clear n0_ n1_; (try clear hb); (try clear hb2); (try clear hk); (try clear hi)) | ((with_reducible refine gate_callee (f := 36) rfl ?_); refine goesL_ (some 152) rfl rfl Tryz.func36 (by kernel_rfl) rfl #[.string t636, .string t637] rfl (by (try simp only [List.map_toArray, List.map_cons, List.map_nil]); first | done | rfl | (simp only [List.length_drop, List.length_take]; rfl)) ?_; (with_reducible refine (iF4.calls kj35 t636 t637 t638 t639 _ (HM2.out.step (by repeat (first | (with_reducible first | exact HB.out | apply below_alloc | apply pw_below_drewN | apply below_drew1) | exact HB.out))) A52.out).mono ?_); rintro e w56 ⟨rfl, hb⟩; refine ⟨_, rfl, ?_⟩; have n0_ := Aside0.mk (Kd.R_below (by (with_reducible repeat (first | apply Kd.R_alloc | apply Kd.R_drewN | apply Kd.R_drew)); exact HO_12.out) hb); have n1_ := Aside0.mk (below_step (by repeat (first | (with_reducible first | exact HB.out | apply below_alloc | apply pw_below_drewN | apply below_drew1) | exact HB.out)) hb); clear HO_12; clear HB; have HO_12 := n0_; have HB := n1_; clear n0_ n1_; (try clear hb); (try clear hb2); (try clear hk); (try clear hi)) | ((with_reducible refine gate_callee (f := 37) rfl ?_); refine goesL_ (some 158) rfl rfl Tryz.func37 (by kernel_rfl) rfl #[.string t636, .string t637] rfl (by (try simp only [List.map_toArray, List.map_cons, List.map_nil]); first | done | rfl | (simp only [List.length_drop, List.length_take]; rfl)) ?_; (with_reducible refine (sF27.calls kj35 t636 t637 t640 t641 _ A53.out).mono ?_); rintro e w57 ⟨rfl, hb⟩; refine ⟨_, rfl, ?_⟩; have n0_ := Aside0.mk (Kd.R_below (by (with_reducible repeat (first | apply Kd.R_alloc | apply Kd.R_drewN | apply Kd.R_drew)); exact HO_12.out) hb); have n1_ := Aside0.mk (below_step (by repeat (first | (with_reducible first | exact HB.out | apply below_alloc | apply pw_below_drewN | apply below_drew1) | exact HB.out)) hb); clear HO_12; clear HB; have HO_12 := n0_; have HB := n1_; clear n0_ n1_; (try clear hb); (try clear hb2); (try clear hk); (try clear hi)))
         (try simp only [Act.put, List.setIfInBounds_toArray, List.set_cons_zero, List.set_cons_succ])
         go_cut [168] from 100000 (fun v168 wc => ∃ (kq : Nat) (x168_53 : Bool), v168 = .bool x168_53 ∧ Aside0 (wF23.j4 kq l0 t608 t609 t610 t613 t614 t617 t636 t637 t638 t639 x168_53 = some true) ∧ Aside0 (kq ≤ kj35) ∧ Aside0 (Kd.R Kd.string 9 wc w.heap.size (fun _ => True) v619 t617) ∧ Aside0 (Below w.heap.size w wc))
         case first =>
          have H := HC54.out
          clear HC54
          by_cases c58 : t638.toList = t640.toList
          ·
           rw [if_pos c58] at H
           have c58b0 : (t638.toList == t640.toList) = true := beq_iff_eq.mpr c58
           have c58b1 : (t638.toList != t640.toList) = false := bne_eq_false_iff_eq.mpr c58
           clear c58
           (first | rw [c58b0] | (simp only [i64_w, i32_w]; rw [c58b0]) | skip)
           have H' := Aside0.mk H
           clear H
           go_wp2
           go_meet
           case rel => exact ⟨_, ((t639 != t641)), (by first | rfl | (simp; done) | (simp [*]; done)), H', ⟨by have := HJ6.out; have := HJ14.out; have := HJ21.out; have := HJ35.out; first | omega | exact Nat.le_refl _⟩, ⟨by (with_reducible repeat (first | apply Kd.R_alloc | apply Kd.R_drewN | apply Kd.R_drew)); exact HO_12.out⟩, ⟨by repeat (first | (with_reducible first | exact HB.out | apply below_alloc | apply pw_below_drewN | apply below_drew1) | exact HB.out)⟩⟩
          rw [if_neg c58] at H
          have c58b0 : (t638.toList == t640.toList) = false := beq_eq_false_iff_ne.mpr c58
          have c58b1 : (t638.toList != t640.toList) = true := bne_iff_ne.mpr c58
          (first | rw [c58b0] | (simp only [i64_w, i32_w]; rw [c58b0]) | skip)
          have H' := Aside0.mk H
          clear H
          go_wp2
          go_meet
          case rel => exact ⟨_, (true), (by first | rfl | (simp; done) | (simp [*]; done)), H', ⟨by have := HJ6.out; have := HJ14.out; have := HJ21.out; have := HJ35.out; first | omega | exact Nat.le_refl _⟩, ⟨by (with_reducible repeat (first | apply Kd.R_alloc | apply Kd.R_drewN | apply Kd.R_drew)); exact HO_12.out⟩, ⟨by repeat (first | (with_reducible first | exact HB.out | apply below_alloc | apply pw_below_drewN | apply below_drew1) | exact HB.out)⟩⟩
         as_aux_lemma =>
          clear HC54
          try clear c1
          try clear c2
          try clear p2
          try clear c3
          try clear c4
          try clear c5
          try clear c11
          try clear c11b0
          try clear c11b1
          try clear c12
          try clear c18
          try clear c18b0
          try clear c18b1
          try clear c19
          try clear c25
          try clear c25b0
          try clear c25b1
          try clear c25b2
          try clear c26
          try clear c27
          try clear c27b0
          try clear c27b1
          try clear c27b2
          try clear c28
          try clear c29
          try clear c30
          try clear c31
          try clear c32
          try clear c33
          try clear c34
          try clear c35
          try clear c36
          try clear c37
          try clear c39
          try clear c39b0
          try clear c39b1
          try clear c39b2
          try clear c40
          try clear c40b0
          try clear c40b1
          try clear c40b2
          try clear c42
          try clear c43
          try clear c50
          try clear c58
          try clear c58b0
          try clear c58b1
          try clear p2
          obtain ⟨kq, x168_53, rfl, HA, HJ53, HO_12, HB⟩ := hcut
          cases kq with
          | zero => exact absurd HA.out (by simp [wF23.j4])
          | succ kj53 =>
           have H := HA.out
           clear HA
           simp only [wF23.j4] at H
           by_cases c59 : x168_53 = true
           ·
            subst c59
            replace H : (some false) = some true := by rw [if_pos rfl] at H; exact H
            exact absurd (Option.some.inj H) Bool.false_ne_true
           replace c59 := Bool.eq_false_iff.mpr c59
           subst c59
           replace H : ((sF31.f kj53 l0).bind fun bt642 => ((iF8.f kj53 bt642.1 bt642.2).bind fun bt644 => ((sF34.f kj53 bt642.1 bt642.2).bind fun bt646 => (if bt644.1.toList = bt646.1.toList then (wF23.j5 kj53 t608 t609 t610 t613 t614 t617 t636 t637 t638 t639 bt642.1 bt644.1 bt644.2 (bt644.2 != bt646.2)) else (wF23.j5 kj53 t608 t609 t610 t613 t614 t617 t636 t637 t638 t639 bt642.1 bt644.1 bt644.2 true))))) = some true := by rw [if_neg (show ¬ (false = true) by decide)] at H; exact H
           replace H := Option.bind_eq_some_iff.mp H
           obtain ⟨⟨t642, t643⟩, A600, H⟩ := H
           replace H : ((iF8.f kj53 t642 t643).bind fun bt644 => ((sF34.f kj53 t642 t643).bind fun bt646 => (if bt644.1.toList = bt646.1.toList then (wF23.j5 kj53 t608 t609 t610 t613 t614 t617 t636 t637 t638 t639 t642 bt644.1 bt644.2 (bt644.2 != bt646.2)) else (wF23.j5 kj53 t608 t609 t610 t613 t614 t617 t636 t637 t638 t639 t642 bt644.1 bt644.2 true)))) = some true := H
           have A60 := Aside0.mk A600
           clear A600
           replace H := Option.bind_eq_some_iff.mp H
           obtain ⟨⟨t644, t645⟩, A610, H⟩ := H
           replace H : ((sF34.f kj53 t642 t643).bind fun bt646 => (if t644.toList = bt646.1.toList then (wF23.j5 kj53 t608 t609 t610 t613 t614 t617 t636 t637 t638 t639 t642 t644 t645 (t645 != bt646.2)) else (wF23.j5 kj53 t608 t609 t610 t613 t614 t617 t636 t637 t638 t639 t642 t644 t645 true))) = some true := H
           have A61 := Aside0.mk A610
           clear A610
           replace H := Option.bind_eq_some_iff.mp H
           obtain ⟨⟨t646, t647⟩, A620, H⟩ := H
           replace H : (if t644.toList = t646.toList then (wF23.j5 kj53 t608 t609 t610 t613 t614 t617 t636 t637 t638 t639 t642 t644 t645 (t645 != t647)) else (wF23.j5 kj53 t608 t609 t610 t613 t614 t617 t636 t637 t638 t639 t642 t644 t645 true)) = some true := H
           have A62 := Aside0.mk A620
           clear A620
           have HC63 := Aside0.mk H
           clear H
           go_upto_region 28 with (first | ((with_reducible refine gate_callee (f := 38) rfl ?_); refine goesL_ (some 171) rfl rfl Tryz.func38 (by kernel_rfl) rfl #[.slice A0 l0.length c0] rfl (by (try simp only [List.map_toArray, List.map_cons, List.map_nil]); first | done | rfl | (simp only [List.length_drop, List.length_take]; rfl)) ?_; (with_reducible refine (sF31.calls kj53 _ _ l0 t642 t643 _ ?side1 HC0.out A60.out).mono ?_); (case side1 => repeat (first | exact (Kd.C_below HR0.out HB.out) | with_reducible first | apply cA_ | apply cN_ | apply cD_)); rintro e w64 ⟨rfl, hb⟩; refine ⟨_, rfl, ?_⟩; have n0_ := Aside0.mk (Kd.R_below (by (with_reducible repeat (first | apply Kd.R_alloc | apply Kd.R_drewN | apply Kd.R_drew)); exact HO_12.out) hb); have n1_ := Aside0.mk (below_step (by repeat (first | (with_reducible first | exact HB.out | apply below_alloc | apply pw_below_drewN | apply below_drew1) | exact HB.out)) hb); clear HO_12; clear HB; have HO_12 := n0_; have HB := n1_; clear n0_ n1_; (try clear hb); (try clear hb2); (try clear hk); (try clear hi)) | ((with_reducible refine gate_callee (f := 39) rfl ?_); refine goesL_ (some 177) rfl rfl Tryz.func39 (by kernel_rfl) rfl #[.string t642, .int .i64 t643] rfl (by (try simp only [List.map_toArray, List.map_cons, List.map_nil]); first | done | rfl | (simp only [List.length_drop, List.length_take]; rfl)) ?_; (with_reducible refine (iF8.calls kj53 t642 t643 t644 t645 _ (HM.out.step (by repeat (first | (with_reducible first | exact HB.out | apply below_alloc | apply pw_below_drewN | apply below_drew1) | exact HB.out))) A61.out).mono ?_); rintro e w65 ⟨rfl, hb⟩; refine ⟨_, rfl, ?_⟩; have n0_ := Aside0.mk (Kd.R_below (by (with_reducible repeat (first | apply Kd.R_alloc | apply Kd.R_drewN | apply Kd.R_drew)); exact HO_12.out) hb); have n1_ := Aside0.mk (below_step (by repeat (first | (with_reducible first | exact HB.out | apply below_alloc | apply pw_below_drewN | apply below_drew1) | exact HB.out)) hb); clear HO_12; clear HB; have HO_12 := n0_; have HB := n1_; clear n0_ n1_; (try clear hb); (try clear hb2); (try clear hk); (try clear hi)) | ((with_reducible refine gate_callee (f := 40) rfl ?_); refine goesL_ (some 183) rfl rfl Tryz.func40 (by kernel_rfl) rfl #[.string t642, .int .i64 t643] rfl (by (try simp only [List.map_toArray, List.map_cons, List.map_nil]); first | done | rfl | (simp only [List.length_drop, List.length_take]; rfl)) ?_; (with_reducible refine (sF34.calls kj53 t642 t643 t646 t647 _ A62.out).mono ?_); rintro e w66 ⟨rfl, hb⟩; refine ⟨_, rfl, ?_⟩; have n0_ := Aside0.mk (Kd.R_below (by (with_reducible repeat (first | apply Kd.R_alloc | apply Kd.R_drewN | apply Kd.R_drew)); exact HO_12.out) hb); have n1_ := Aside0.mk (below_step (by repeat (first | (with_reducible first | exact HB.out | apply below_alloc | apply pw_below_drewN | apply below_drew1) | exact HB.out)) hb); clear HO_12; clear HB; have HO_12 := n0_; have HB := n1_; clear n0_ n1_; (try clear hb); (try clear hb2); (try clear hk); (try clear hi)))
           (try simp only [Act.put, List.setIfInBounds_toArray, List.set_cons_zero, List.set_cons_succ])
           go_cut [193] from 100000 (fun v193 wc => ∃ (kq : Nat) (x193_62 : Bool), v193 = .bool x193_62 ∧ Aside0 (wF23.j5 kq t608 t609 t610 t613 t614 t617 t636 t637 t638 t639 t642 t644 t645 x193_62 = some true) ∧ Aside0 (kq ≤ kj53) ∧ Aside0 (Kd.R Kd.string 9 wc w.heap.size (fun _ => True) v619 t617) ∧ Aside0 (Below w.heap.size w wc))
           case first =>
            have H := HC63.out
            clear HC63
            by_cases c67 : t644.toList = t646.toList
            ·
             rw [if_pos c67] at H
             have c67b0 : (t644.toList == t646.toList) = true := beq_iff_eq.mpr c67
             have c67b1 : (t644.toList != t646.toList) = false := bne_eq_false_iff_eq.mpr c67
             clear c67
             (first | rw [c67b0] | (simp only [i64_w, i32_w]; rw [c67b0]) | skip)
             have H' := Aside0.mk H
             clear H
             go_wp2
             go_meet
             case rel => exact ⟨_, ((t645 != t647)), (by first | rfl | (simp; done) | (simp [*]; done)), H', ⟨by have := HJ6.out; have := HJ14.out; have := HJ21.out; have := HJ35.out; have := HJ53.out; first | omega | exact Nat.le_refl _⟩, ⟨by (with_reducible repeat (first | apply Kd.R_alloc | apply Kd.R_drewN | apply Kd.R_drew)); exact HO_12.out⟩, ⟨by repeat (first | (with_reducible first | exact HB.out | apply below_alloc | apply pw_below_drewN | apply below_drew1) | exact HB.out)⟩⟩
            rw [if_neg c67] at H
            have c67b0 : (t644.toList == t646.toList) = false := beq_eq_false_iff_ne.mpr c67
            have c67b1 : (t644.toList != t646.toList) = true := bne_iff_ne.mpr c67
            (first | rw [c67b0] | (simp only [i64_w, i32_w]; rw [c67b0]) | skip)
            have H' := Aside0.mk H
            clear H
            go_wp2
            go_meet
            case rel => exact ⟨_, (true), (by first | rfl | (simp; done) | (simp [*]; done)), H', ⟨by have := HJ6.out; have := HJ14.out; have := HJ21.out; have := HJ35.out; have := HJ53.out; first | omega | exact Nat.le_refl _⟩, ⟨by (with_reducible repeat (first | apply Kd.R_alloc | apply Kd.R_drewN | apply Kd.R_drew)); exact HO_12.out⟩, ⟨by repeat (first | (with_reducible first | exact HB.out | apply below_alloc | apply pw_below_drewN | apply below_drew1) | exact HB.out)⟩⟩
           as_aux_lemma =>
            clear HC63
            try clear c1
            try clear c2
            try clear p2
            try clear c3
            try clear c4
            try clear c5
            try clear c6
            try clear c11
            try clear c11b0
            try clear c11b1
            try clear c12
            try clear c18
            try clear c18b0
            try clear c18b1
            try clear c19
            try clear c25
            try clear c25b0
            try clear c25b1
            try clear c25b2
            try clear c26
            try clear c27
            try clear c27b0
            try clear c27b1
            try clear c27b2
            try clear c28
            try clear c29
            try clear c30
            try clear c31
            try clear c32
            try clear c33
            try clear c34
            try clear c35
            try clear c36
            try clear c37
            try clear c38
            try clear c39
            try clear c39b0
            try clear c39b1
            try clear c39b2
            try clear c40
            try clear c40b0
            try clear c40b1
            try clear c40b2
            try clear c42
            try clear c43
            try clear c50
            try clear c58
            try clear c58b0
            try clear c58b1
            try clear c59
            try clear c67
            try clear c67b0
            try clear c67b1
            try clear p2
            obtain ⟨kq, x193_62, rfl, HA, HJ62, HO_12, HB⟩ := hcut
            cases kq with
            | zero => exact absurd HA.out (by simp [wF23.j5])
            | succ kj62 =>
             have H := HA.out
             clear HA
             simp only [wF23.j5] at H
             by_cases c68 : x193_62 = true
             ·
              subst c68
              replace H : (some false) = some true := by rw [if_pos rfl] at H; exact H
              exact absurd (Option.some.inj H) Bool.false_ne_true
             replace c68 := Bool.eq_false_iff.mpr c68
             subst c68
             replace H : (if t639 = true then ((iF4.f kj62 t637 t636).bind fun bt648 => (if bt648.2 = true then (if bt648.1.toList = t638.toList then (wF23.j6 kj62 t608 t609 t610 t613 t614 t617 t642 t644 t645) else (some false)) else (some false))) else (wF23.j6 kj62 t608 t609 t610 t613 t614 t617 t642 t644 t645)) = some true := by rw [if_neg (show ¬ (false = true) by decide)] at H; exact H
             have HC69 := Aside0.mk H
             clear H
             go_upto_if 194 with (fail)
             go_cut [] from 100000 (fun wc => ∃ (kq : Nat), Aside0 (wF23.j6 kq t608 t609 t610 t613 t614 t617 t642 t644 t645 = some true) ∧ Aside0 (kq ≤ kj62) ∧ Aside0 (Kd.R Kd.string 9 wc w.heap.size (fun _ => True) v619 t617) ∧ Aside0 (Below w.heap.size w wc))
             case first =>
              have H := HC69.out
              clear HC69
              by_cases c70 : t639 = true
              rotate_left
              ·
               replace c70 := Bool.eq_false_iff.mpr c70
               subst c70
               replace H : (wF23.j6 kj62 t608 t609 t610 t613 t614 t617 t642 t644 t645) = some true := by rw [if_neg (show ¬ (false = true) by decide)] at H; exact H
               have H' := Aside0.mk H
               clear H
               go_wp2
               go_meet
               case rel => exact ⟨_, H', ⟨by have := HJ6.out; have := HJ14.out; have := HJ21.out; have := HJ35.out; have := HJ53.out; have := HJ62.out; first | omega | exact Nat.le_refl _⟩, ⟨by (with_reducible repeat (first | apply Kd.R_alloc | apply Kd.R_drewN | apply Kd.R_drew)); exact HO_12.out⟩, ⟨by repeat (first | (with_reducible first | exact HB.out | apply below_alloc | apply pw_below_drewN | apply below_drew1) | exact HB.out)⟩⟩
              subst c70
              replace H : ((iF4.f kj62 t637 t636).bind fun bt648 => (if bt648.2 = true then (if bt648.1.toList = t638.toList then (wF23.j6 kj62 t608 t609 t610 t613 t614 t617 t642 t644 t645) else (some false)) else (some false))) = some true := by rw [if_pos rfl] at H; exact H
              replace H := Option.bind_eq_some_iff.mp H
              obtain ⟨⟨t648, t649⟩, A710, H⟩ := H
              replace H : (if t649 = true then (if t648.toList = t638.toList then (wF23.j6 kj62 t608 t609 t610 t613 t614 t617 t642 t644 t645) else (some false)) else (some false)) = some true := H
              have A71 := Aside0.mk A710
              clear A710
              by_cases c72 : t649 = true
              rotate_left
              ·
               replace c72 := Bool.eq_false_iff.mpr c72
               subst c72
               replace H : (some false) = some true := by rw [if_neg (show ¬ (false = true) by decide)] at H; exact H
               exact absurd (Option.some.inj H) Bool.false_ne_true
              subst c72
              replace H : (if t648.toList = t638.toList then (wF23.j6 kj62 t608 t609 t610 t613 t614 t617 t642 t644 t645) else (some false)) = some true := by rw [if_pos rfl] at H; exact H
              by_cases c73 : t648.toList = t638.toList
              ·
               rw [if_pos c73] at H
               have c73b0 : (t648.toList == t638.toList) = true := beq_iff_eq.mpr c73
               have c73b1 : (t648.toList != t638.toList) = false := bne_eq_false_iff_eq.mpr c73
               clear c73
               (first | rw [c73b0] | (simp only [i64_w, i32_w]; rw [c73b0]) | skip)
               have H' := Aside0.mk H
               clear H
               go_wp2_with (first | ((with_reducible refine gate_callee (f := 36) rfl ?_); refine goesL_ (some 198) rfl rfl Tryz.func36 (by kernel_rfl) rfl #[.string t637, .string t636] rfl (by (try simp only [List.map_toArray, List.map_cons, List.map_nil]); first | done | rfl | (simp only [List.length_drop, List.length_take]; rfl)) ?_; (with_reducible refine (iF4.calls kj62 t637 t636 t648 true _ (HM2.out.step (by repeat (first | (with_reducible first | exact HB.out | apply below_alloc | apply pw_below_drewN | apply below_drew1) | exact HB.out))) A71.out).mono ?_); rintro e w74 ⟨rfl, hb⟩; refine ⟨_, rfl, ?_⟩; have n0_ := Aside0.mk (Kd.R_below (by (with_reducible repeat (first | apply Kd.R_alloc | apply Kd.R_drewN | apply Kd.R_drew)); exact HO_12.out) hb); have n1_ := Aside0.mk (below_step (by repeat (first | (with_reducible first | exact HB.out | apply below_alloc | apply pw_below_drewN | apply below_drew1) | exact HB.out)) hb); clear HO_12; clear HB; have HO_12 := n0_; have HB := n1_; clear n0_ n1_; (try clear hb); (try clear hb2); (try clear hk); (try clear hi)))
               go_meet
               case rel => exact ⟨_, H', ⟨by have := HJ6.out; have := HJ14.out; have := HJ21.out; have := HJ35.out; have := HJ53.out; have := HJ62.out; first | omega | exact Nat.le_refl _⟩, ⟨by (with_reducible repeat (first | apply Kd.R_alloc | apply Kd.R_drewN | apply Kd.R_drew)); exact HO_12.out⟩, ⟨by repeat (first | (with_reducible first | exact HB.out | apply below_alloc | apply pw_below_drewN | apply below_drew1) | exact HB.out)⟩⟩
              rw [if_neg c73] at H
              have c73b0 : (t648.toList == t638.toList) = false := beq_eq_false_iff_ne.mpr c73
              have c73b1 : (t648.toList != t638.toList) = true := bne_iff_ne.mpr c73
              (first | rw [c73b0] | (simp only [i64_w, i32_w]; rw [c73b0]) | skip)
              exact absurd (Option.some.inj H) Bool.false_ne_true
             as_aux_lemma =>
              clear HC69
              try clear c1
              try clear c2
              try clear p2
              try clear c3
              try clear c4
              try clear c5
              try clear c6
              try clear c7
              try clear c11
              try clear c11b0
              try clear c11b1
              try clear c12
              try clear c18
              try clear c18b0
              try clear c18b1
              try clear c19
              try clear c25
              try clear c25b0
              try clear c25b1
              try clear c25b2
              try clear c26
              try clear c27
              try clear c27b0
              try clear c27b1
              try clear c27b2
              try clear c28
              try clear c29
              try clear c30
              try clear c31
              try clear c32
              try clear c33
              try clear c34
              try clear c35
              try clear c36
              try clear c37
              try clear c38
              try clear c39
              try clear c39b0
              try clear c39b1
              try clear c39b2
              try clear c40
              try clear c40b0
              try clear c40b1
              try clear c40b2
              try clear c42
              try clear c43
              try clear c50
              try clear c58
              try clear c58b0
              try clear c58b1
              try clear c59
              try clear c67
              try clear c67b0
              try clear c67b1
              try clear c68
              try clear c70
              try clear c72
              try clear c73
              try clear c73b0
              try clear c73b1
              try clear p2
              obtain ⟨kq, HA, HJ68, HO_12, HB⟩ := hcut
              cases kq with
              | zero => exact absurd HA.out (by simp [wF23.j6])
              | succ kj68 =>
               have H := HA.out
               clear HA
               simp only [wF23.j6] at H
               have HC77 := Aside0.mk H
               clear H
               go_upto_region 34 with (fail)
               go_cut [212] from 100000 (fun v212 wc => ∃ (kq : Nat) (x212_76 : Bool), v212 = .bool x212_76 ∧ Aside0 (wF23.j7 kq t608 t609 t610 t613 t614 t617 t642 t644 x212_76 = some true) ∧ Aside0 (kq ≤ kj68) ∧ Aside0 (Kd.R Kd.string 9 wc w.heap.size (fun _ => True) v619 t617) ∧ Aside0 (Below w.heap.size w wc))
               case first =>
                have H := HC77.out
                clear HC77
                by_cases c78 : t645 = true
                ·
                 subst c78
                 replace H : ((iF5.f t644).bind fun t650 => (wF23.j7 kj68 t608 t609 t610 t613 t614 t617 t642 t644 t650)) = some true := by rw [if_pos rfl] at H; exact H
                 replace H := Option.bind_eq_some_iff.mp H
                 obtain ⟨t650, A790, H⟩ := H
                 replace H : (wF23.j7 kj68 t608 t609 t610 t613 t614 t617 t642 t644 t650) = some true := H
                 have A79 := Aside0.mk A790
                 clear A790
                 have H' := Aside0.mk H
                 clear H
                 go_wp2_with (first | (go_at_call 9; (with_reducible refine (iF5.calls t644 t650 _ A79.out).mono ?_); rintro e w80 ⟨rfl, hb⟩; have n0_ := Aside0.mk (Kd.R_below (by (with_reducible repeat (first | apply Kd.R_alloc | apply Kd.R_drewN | apply Kd.R_drew)); exact HO_12.out) hb); have n1_ := Aside0.mk (below_step (by repeat (first | (with_reducible first | exact HB.out | apply below_alloc | apply pw_below_drewN | apply below_drew1) | exact HB.out)) hb); clear HO_12; clear HB; have HO_12 := n0_; have HB := n1_; clear n0_ n1_; (try clear hb); (try clear hb2); (try clear hk); (try clear hi)))
                 go_meet
                 case rel => exact ⟨_, (t650), (by first | rfl | (simp; done) | (simp [*]; done)), H', ⟨by have := HJ6.out; have := HJ14.out; have := HJ21.out; have := HJ35.out; have := HJ53.out; have := HJ62.out; have := HJ68.out; first | omega | exact Nat.le_refl _⟩, ⟨by (with_reducible repeat (first | apply Kd.R_alloc | apply Kd.R_drewN | apply Kd.R_drew)); exact HO_12.out⟩, ⟨by repeat (first | (with_reducible first | exact HB.out | apply below_alloc | apply pw_below_drewN | apply below_drew1) | exact HB.out)⟩⟩
                replace c78 := Bool.eq_false_iff.mpr c78
                subst c78
                replace H : (wF23.j7 kj68 t608 t609 t610 t613 t614 t617 t642 t644 false) = some true := by rw [if_neg (show ¬ (false = true) by decide)] at H; exact H
                have H' := Aside0.mk H
                clear H
                go_wp2
                go_meet
                case rel => exact ⟨_, (false), (by first | rfl | (simp; done) | (simp [*]; done)), H', ⟨by have := HJ6.out; have := HJ14.out; have := HJ21.out; have := HJ35.out; have := HJ53.out; have := HJ62.out; have := HJ68.out; first | omega | exact Nat.le_refl _⟩, ⟨by (with_reducible repeat (first | apply Kd.R_alloc | apply Kd.R_drewN | apply Kd.R_drew)); exact HO_12.out⟩, ⟨by repeat (first | (with_reducible first | exact HB.out | apply below_alloc | apply pw_below_drewN | apply below_drew1) | exact HB.out)⟩⟩
               as_aux_lemma =>
                clear HC77
                try clear c1
                try clear c2
                try clear p2
                try clear c3
                try clear c4
                try clear c5
                try clear c6
                try clear c7
                try clear c11
                try clear c11b0
                try clear c11b1
                try clear c12
                try clear c18
                try clear c18b0
                try clear c18b1
                try clear c19
                try clear c25
                try clear c25b0
                try clear c25b1
                try clear c25b2
                try clear c26
                try clear c27
                try clear c27b0
                try clear c27b1
                try clear c27b2
                try clear c28
                try clear c29
                try clear c30
                try clear c31
                try clear c32
                try clear c33
                try clear c34
                try clear c35
                try clear c36
                try clear c37
                try clear c38
                try clear c39
                try clear c39b0
                try clear c39b1
                try clear c39b2
                try clear c40
                try clear c40b0
                try clear c40b1
                try clear c40b2
                try clear c42
                try clear c43
                try clear c50
                try clear c58
                try clear c58b0
                try clear c58b1
                try clear c59
                try clear c67
                try clear c67b0
                try clear c67b1
                try clear c68
                try clear c70
                try clear c72
                try clear c73
                try clear c73b0
                try clear c73b1
                try clear c78
                try clear p2
                obtain ⟨kq, x212_76, rfl, HA, HJ76, HO_12, HB⟩ := hcut
                cases kq with
                | zero => exact absurd HA.out (by simp [wF23.j7])
                | succ kj76 =>
                 have H := HA.out
                 clear HA
                 simp only [wF23.j7] at H
                 have HC81 := Aside0.mk H
                 clear H
                 go_upto_if 212 with (fail)
                 go_cut [] from 100000 (fun wc => ∃ (kq : Nat), Aside0 (wF23.j8 kq t608 t609 t610 t613 t614 t617 = some true) ∧ Aside0 (kq ≤ kj76) ∧ Aside0 (Kd.R Kd.string 9 wc w.heap.size (fun _ => True) v619 t617) ∧ Aside0 (Below w.heap.size w wc))
                 case first =>
                  have H := HC81.out
                  clear HC81
                  by_cases c82 : x212_76 = true
                  rotate_left
                  ·
                   replace c82 := Bool.eq_false_iff.mpr c82
                   subst c82
                   replace H : (wF23.j8 kj76 t608 t609 t610 t613 t614 t617) = some true := by rw [if_neg (show ¬ (false = true) by decide)] at H; exact H
                   have H' := Aside0.mk H
                   clear H
                   go_wp2
                   go_meet
                   case rel => exact ⟨_, H', ⟨by have := HJ6.out; have := HJ14.out; have := HJ21.out; have := HJ35.out; have := HJ53.out; have := HJ62.out; have := HJ68.out; have := HJ76.out; first | omega | exact Nat.le_refl _⟩, ⟨by (with_reducible repeat (first | apply Kd.R_alloc | apply Kd.R_drewN | apply Kd.R_drew)); exact HO_12.out⟩, ⟨by repeat (first | (with_reducible first | exact HB.out | apply below_alloc | apply pw_below_drewN | apply below_drew1) | exact HB.out)⟩⟩
                  subst c82
                  replace H : ((iF7.f kj76 t642 t644).bind fun bt651 => (if bt651.2 = true then (if (bt651.1.length : Int) = 0 then (wF23.j8 kj76 t608 t609 t610 t613 t614 t617) else (some false)) else (some false))) = some true := by rw [if_pos rfl] at H; exact H
                  replace H := Option.bind_eq_some_iff.mp H
                  obtain ⟨⟨t651, t652⟩, A830, H⟩ := H
                  replace H : (if t652 = true then (if (t651.length : Int) = 0 then (wF23.j8 kj76 t608 t609 t610 t613 t614 t617) else (some false)) else (some false)) = some true := H
                  have A83 := Aside0.mk A830
                  clear A830
                  by_cases c84 : t652 = true
                  rotate_left
                  ·
                   replace c84 := Bool.eq_false_iff.mpr c84
                   subst c84
                   replace H : (some false) = some true := by rw [if_neg (show ¬ (false = true) by decide)] at H; exact H
                   exact absurd (Option.some.inj H) Bool.false_ne_true
                  subst c84
                  replace H : (if (t651.length : Int) = 0 then (wF23.j8 kj76 t608 t609 t610 t613 t614 t617) else (some false)) = some true := by rw [if_pos rfl] at H; exact H
                  by_cases c85 : (t651.length : Int) = 0
                  ·
                   rw [if_pos c85] at H
                   have c85b0 : ((t651.length : Int) == 0) = true := beq_iff_eq.mpr c85
                   have c85b1 : ((t651.length : Int) != 0) = false := bne_eq_false_iff_eq.mpr c85
                   clear c85
                   (first | rw [c85b0] | (simp only [i64_w, i32_w]; rw [c85b0]) | skip)
                   have H' := Aside0.mk H
                   clear H
                   go_wp2_with (first | ((with_reducible refine gate_callee (f := 21) rfl ?_); refine goesL_ (some 216) rfl rfl Tryz.func21 (by kernel_rfl) rfl #[.string t642, .string t644] rfl (by (try simp only [List.map_toArray, List.map_cons, List.map_nil]); first | done | rfl | (simp only [List.length_drop, List.length_take]; rfl)) ?_; (with_reducible refine (iF7.calls kj76 t642 t644 t651 true _ A83.out).mono ?_); rintro e w86 ⟨v653, rfl, ho0, hb⟩; refine ⟨_, rfl, ?_⟩; have n0_ := Aside0.mk (Kd.R_below (by (with_reducible repeat (first | apply Kd.R_alloc | apply Kd.R_drewN | apply Kd.R_drew)); exact HO_12.out) hb); have n1_ := Aside0.mk (Kd.R_lower ho0 (below_size (by repeat (first | (with_reducible first | exact HB.out | apply below_alloc | apply pw_below_drewN | apply below_drew1) | exact HB.out)))); have n2_ := Aside0.mk (below_step (by repeat (first | (with_reducible first | exact HB.out | apply below_alloc | apply pw_below_drewN | apply below_drew1) | exact HB.out)) hb); clear HO_12; clear HB; have HO_12 := n0_; have HO654 := n1_; have HB := n2_; clear n0_ n1_ n2_; (try clear hb); (try clear hb2); (try clear hk); (try clear hi); (try clear ho0); obtain ⟨Ao87, co87, eo87⟩ := Kd.R_slice HO654.out; subst eo87))
                   go_meet
                   case rel => exact ⟨_, H', ⟨by have := HJ6.out; have := HJ14.out; have := HJ21.out; have := HJ35.out; have := HJ53.out; have := HJ62.out; have := HJ68.out; have := HJ76.out; first | omega | exact Nat.le_refl _⟩, ⟨by (with_reducible repeat (first | apply Kd.R_alloc | apply Kd.R_drewN | apply Kd.R_drew)); exact HO_12.out⟩, ⟨by repeat (first | (with_reducible first | exact HB.out | apply below_alloc | apply pw_below_drewN | apply below_drew1) | exact HB.out)⟩⟩
                  rw [if_neg c85] at H
                  have c85b0 : ((t651.length : Int) == 0) = false := beq_eq_false_iff_ne.mpr c85
                  have c85b1 : ((t651.length : Int) != 0) = true := bne_iff_ne.mpr c85
                  have c85b2 : ¬ (t651 = []) := fun h_ => c85 (by rw [h_]; rfl)
                  (first | rw [c85b0] | (simp only [i64_w, i32_w]; rw [c85b0]) | skip)
                  exact absurd (Option.some.inj H) Bool.false_ne_true
                 as_aux_lemma =>
                  clear HC81
                  try clear c1
                  try clear c2
                  try clear p2
                  try clear c3
                  try clear c4
                  try clear c5
                  try clear c6
                  try clear c7
                  try clear c8
                  try clear c11
                  try clear c11b0
                  try clear c11b1
                  try clear c12
                  try clear c18
                  try clear c18b0
                  try clear c18b1
                  try clear c19
                  try clear c21
                  try clear c25
                  try clear c25b0
                  try clear c25b1
                  try clear c25b2
                  try clear c26
                  try clear c27
                  try clear c27b0
                  try clear c27b1
                  try clear c27b2
                  try clear c28
                  try clear c29
                  try clear c30
                  try clear c31
                  try clear c32
                  try clear c33
                  try clear c34
                  try clear c35
                  try clear c36
                  try clear c37
                  try clear c38
                  try clear c39
                  try clear c39b0
                  try clear c39b1
                  try clear c39b2
                  try clear c40
                  try clear c40b0
                  try clear c40b1
                  try clear c40b2
                  try clear c42
                  try clear c43
                  try clear c50
                  try clear c58
                  try clear c58b0
                  try clear c58b1
                  try clear c59
                  try clear c67
                  try clear c67b0
                  try clear c67b1
                  try clear c68
                  try clear c70
                  try clear c72
                  try clear c73
                  try clear c73b0
                  try clear c73b1
                  try clear c78
                  try clear c82
                  try clear c84
                  try clear c85
                  try clear c85b0
                  try clear c85b1
                  try clear c85b2
                  try clear p2
                  obtain ⟨kq, HA, HJ80, HO_12, HB⟩ := hcut
                  cases kq with
                  | zero => exact absurd HA.out (by simp [wF23.j8])
                  | succ kj80 =>
                   have H := HA.out
                   clear HA
                   simp only [wF23.j8] at H
                   have HC91 := Aside0.mk H
                   clear H
                   go_upto_if 226 with (fail)
                   go_cut [] from 100000 (fun wc => ∃ (kq : Nat), Aside0 (wF23.j9 kq t608 t609 t610 t613 t617 = some true) ∧ Aside0 (kq ≤ kj80) ∧ Aside0 (Kd.R Kd.string 9 wc w.heap.size (fun _ => True) v619 t617) ∧ Aside0 (Below w.heap.size w wc))
                   case first =>
                    have H := HC91.out
                    clear HC91
                    by_cases c92 : t614 = true
                    rotate_left
                    ·
                     replace c92 := Bool.eq_false_iff.mpr c92
                     subst c92
                     replace H : (wF23.j9 kj80 t608 t609 t610 t613 t617) = some true := by rw [if_neg (show ¬ (false = true) by decide)] at H; exact H
                     have H' := Aside0.mk H
                     clear H
                     go_wp2
                     go_meet
                     case rel => exact ⟨_, H', ⟨by have := HJ6.out; have := HJ14.out; have := HJ21.out; have := HJ35.out; have := HJ53.out; have := HJ62.out; have := HJ68.out; have := HJ76.out; have := HJ80.out; first | omega | exact Nat.le_refl _⟩, ⟨by (with_reducible repeat (first | apply Kd.R_alloc | apply Kd.R_drewN | apply Kd.R_drew)); exact HO_12.out⟩, ⟨by repeat (first | (with_reducible first | exact HB.out | apply below_alloc | apply pw_below_drewN | apply below_drew1) | exact HB.out)⟩⟩
                    subst c92
                    replace H : ((iF7.f kj80 t608 t613).bind fun bt655 => (if bt655.2 = true then (if (bt655.1.length : Int) = 1 then (wF23.j9 kj80 t608 t609 t610 t613 t617) else (some false)) else (some false))) = some true := by rw [if_pos rfl] at H; exact H
                    replace H := Option.bind_eq_some_iff.mp H
                    obtain ⟨⟨t655, t656⟩, A930, H⟩ := H
                    replace H : (if t656 = true then (if (t655.length : Int) = 1 then (wF23.j9 kj80 t608 t609 t610 t613 t617) else (some false)) else (some false)) = some true := H
                    have A93 := Aside0.mk A930
                    clear A930
                    by_cases c94 : t656 = true
                    rotate_left
                    ·
                     replace c94 := Bool.eq_false_iff.mpr c94
                     subst c94
                     replace H : (some false) = some true := by rw [if_neg (show ¬ (false = true) by decide)] at H; exact H
                     exact absurd (Option.some.inj H) Bool.false_ne_true
                    subst c94
                    replace H : (if (t655.length : Int) = 1 then (wF23.j9 kj80 t608 t609 t610 t613 t617) else (some false)) = some true := by rw [if_pos rfl] at H; exact H
                    by_cases c95 : (t655.length : Int) = 1
                    ·
                     rw [if_pos c95] at H
                     have c95b0 : ((t655.length : Int) == 1) = true := beq_iff_eq.mpr c95
                     have c95b1 : ((t655.length : Int) != 1) = false := bne_eq_false_iff_eq.mpr c95
                     clear c95
                     (first | rw [c95b0] | (simp only [i64_w, i32_w]; rw [c95b0]) | skip)
                     have H' := Aside0.mk H
                     clear H
                     go_wp2_with (first | ((with_reducible refine gate_callee (f := 21) rfl ?_); refine goesL_ (some 230) rfl rfl Tryz.func21 (by kernel_rfl) rfl #[.string t608, .string t613] rfl (by (try simp only [List.map_toArray, List.map_cons, List.map_nil]); first | done | rfl | (simp only [List.length_drop, List.length_take]; rfl)) ?_; (with_reducible refine (iF7.calls kj80 t608 t613 t655 true _ A93.out).mono ?_); rintro e w96 ⟨v657, rfl, ho0, hb⟩; refine ⟨_, rfl, ?_⟩; have n0_ := Aside0.mk (Kd.R_below (by (with_reducible repeat (first | apply Kd.R_alloc | apply Kd.R_drewN | apply Kd.R_drew)); exact HO_12.out) hb); have n1_ := Aside0.mk (Kd.R_lower ho0 (below_size (by repeat (first | (with_reducible first | exact HB.out | apply below_alloc | apply pw_below_drewN | apply below_drew1) | exact HB.out)))); have n2_ := Aside0.mk (below_step (by repeat (first | (with_reducible first | exact HB.out | apply below_alloc | apply pw_below_drewN | apply below_drew1) | exact HB.out)) hb); clear HO_12; clear HB; have HO_12 := n0_; have HO658 := n1_; have HB := n2_; clear n0_ n1_ n2_; (try clear hb); (try clear hb2); (try clear hk); (try clear hi); (try clear ho0); obtain ⟨Ao97, co97, eo97⟩ := Kd.R_slice HO658.out; subst eo97))
                     go_meet
                     case rel => exact ⟨_, H', ⟨by have := HJ6.out; have := HJ14.out; have := HJ21.out; have := HJ35.out; have := HJ53.out; have := HJ62.out; have := HJ68.out; have := HJ76.out; have := HJ80.out; first | omega | exact Nat.le_refl _⟩, ⟨by (with_reducible repeat (first | apply Kd.R_alloc | apply Kd.R_drewN | apply Kd.R_drew)); exact HO_12.out⟩, ⟨by repeat (first | (with_reducible first | exact HB.out | apply below_alloc | apply pw_below_drewN | apply below_drew1) | exact HB.out)⟩⟩
                    rw [if_neg c95] at H
                    have c95b0 : ((t655.length : Int) == 1) = false := beq_eq_false_iff_ne.mpr c95
                    have c95b1 : ((t655.length : Int) != 1) = true := bne_iff_ne.mpr c95
                    (first | rw [c95b0] | (simp only [i64_w, i32_w]; rw [c95b0]) | skip)
                    exact absurd (Option.some.inj H) Bool.false_ne_true
                   as_aux_lemma =>
                    clear HC91
                    try clear c1
                    try clear c2
                    try clear p2
                    try clear c3
                    try clear c4
                    try clear c5
                    try clear c6
                    try clear c7
                    try clear c8
                    try clear c9
                    try clear c11
                    try clear c11b0
                    try clear c11b1
                    try clear c12
                    try clear c18
                    try clear c18b0
                    try clear c18b1
                    try clear c19
                    try clear c21
                    try clear c25
                    try clear c25b0
                    try clear c25b1
                    try clear c25b2
                    try clear c26
                    try clear c27
                    try clear c27b0
                    try clear c27b1
                    try clear c27b2
                    try clear c28
                    try clear c29
                    try clear c30
                    try clear c31
                    try clear c32
                    try clear c33
                    try clear c34
                    try clear c35
                    try clear c36
                    try clear c37
                    try clear c38
                    try clear c39
                    try clear c39b0
                    try clear c39b1
                    try clear c39b2
                    try clear c40
                    try clear c40b0
                    try clear c40b1
                    try clear c40b2
                    try clear c42
                    try clear c43
                    try clear c50
                    try clear c58
                    try clear c58b0
                    try clear c58b1
                    try clear c59
                    try clear c67
                    try clear c67b0
                    try clear c67b1
                    try clear c68
                    try clear c70
                    try clear c72
                    try clear c73
                    try clear c73b0
                    try clear c73b1
                    try clear c78
                    try clear c82
                    try clear c84
                    try clear c85
                    try clear c85b0
                    try clear c85b1
                    try clear c85b2
                    try clear c92
                    try clear c94
                    try clear c95
                    try clear c95b0
                    try clear c95b1
                    try clear p2
                    obtain ⟨kq, HA, HJ90, HO_12, HB⟩ := hcut
                    cases kq with
                    | zero => exact absurd HA.out (by simp [wF23.j9])
                    | succ kj90 =>
                     have H := HA.out
                     clear HA
                     simp only [wF23.j9] at H
                     by_cases c101 : t610 = true
                     rotate_left
                     ·
                      replace c101 := Bool.eq_false_iff.mpr c101
                      subst c101
                      replace H : (some true) = some true := rfl
                      first | obtain rfl := Option.some.inj H | clear H
                      go_wp2
                      go_ret
                      exact ⟨by first | rfl | (simp [errW_none, errW_some] <;> rfl) | (simp [*, errW_none, errW_some] <;> rfl), by repeat (first | (with_reducible first | exact HB.out | apply below_alloc | apply pw_below_drewN | apply below_drew1) | exact HB.out)⟩
                     subst c101
                     replace H : ((iF12.f kj90 t608).bind fun bt659 => (if bt659.2 = true then (wF23.l0 kj90 t608 t609 t613 t617 bt659.1 0) else (some false))) = some true := by rw [if_pos rfl] at H; exact H
                     replace H := Option.bind_eq_some_iff.mp H
                     obtain ⟨⟨t659, t660⟩, A1020, H⟩ := H
                     replace H : (if t660 = true then (wF23.l0 kj90 t608 t609 t613 t617 t659 0) else (some false)) = some true := H
                     have A102 := Aside0.mk A1020
                     clear A1020
                     by_cases c103 : t660 = true
                     rotate_left
                     ·
                      replace c103 := Bool.eq_false_iff.mpr c103
                      subst c103
                      replace H : (some false) = some true := by rw [if_neg (show ¬ (false = true) by decide)] at H; exact H
                      exact absurd (Option.some.inj H) Bool.false_ne_true
                     subst c103
                     replace H : (wF23.l0 kj90 t608 t609 t613 t617 t659 0) = some true := by rw [if_pos rfl] at H; exact H
                     have H' := Aside0.mk H
                     clear H
                     go_wp2_with (first | ((with_reducible refine gate_callee (f := 7) rfl ?_); refine goesL_ (some 244) rfl rfl Tryz.func7 (by kernel_rfl) rfl #[.string t608] rfl (by (try simp only [List.map_toArray, List.map_cons, List.map_nil]); first | done | rfl | (simp only [List.length_drop, List.length_take]; rfl)) ?_; (with_reducible refine (iF12.calls kj90 t608 t659 true _ A102.out).mono ?_); rintro e w104 ⟨v661, rfl, ho0, hb⟩; refine ⟨_, rfl, ?_⟩; have n0_ := Aside0.mk (Kd.R_elder' (by (with_reducible repeat (first | apply Kd.R_alloc | apply Kd.R_drewN | apply Kd.R_drew)); exact HO_12.out) (Kd.R_base ho0) hb); have n1_ := Aside0.mk (Kd.R_lower (Kd.R_new' ho0 (Kd.R_lt (by (with_reducible repeat (first | apply Kd.R_alloc | apply Kd.R_drewN | apply Kd.R_drew)); exact HO_12.out))) (below_size (by repeat (first | (with_reducible first | exact HB.out | apply below_alloc | apply pw_below_drewN | apply below_drew1) | exact HB.out)))); have n2_ := Aside0.mk (below_step (by repeat (first | (with_reducible first | exact HB.out | apply below_alloc | apply pw_below_drewN | apply below_drew1) | exact HB.out)) hb); clear HO_12; clear HB; have HO_12 := n0_; have HO662 := n1_; have HB := n2_; clear n0_ n1_ n2_; (try clear hb); (try clear hb2); (try clear hk); (try clear hi); (try clear ho0)))
                     go_loopg [40] kj90 (fun kq v40 w' => ∃ (x40_11 : Int), v40 = .int .i64 x40_11 ∧ Aside0 (wF23.l0 kq t608 t609 t613 t617 t659 x40_11 = some true) ∧ Aside0 (kq ≤ kj90) ∧ Aside0 (Kd.R Kd.string 9 w' w.heap.size (fun k_ => some k_ ≠ (v661 : Value).ownBlock) v619 t617) ∧ Aside0 (Kd.R Kd.string 9 w' w.heap.size (fun k_ => some k_ ≠ (v619 : Value).ownBlock) v661 t659) ∧ Aside0 (Below w.heap.size w w'))
                     case atStart => exact ⟨(0), (by first | rfl | (simp; done) | (simp [*]; done)), H', ⟨Nat.le_refl _⟩, ⟨by (with_reducible repeat (first | apply Kd.R_alloc | apply Kd.R_drewN | apply Kd.R_drew)); exact Kd.R_mono HO_12.out (fun _ hk => hk.2)⟩, ⟨by (with_reducible repeat (first | apply Kd.R_alloc | apply Kd.R_drewN | apply Kd.R_drew)); exact Kd.R_mono HO662.out (fun _ hk => hk.2)⟩, ⟨by repeat (first | (with_reducible first | exact HB.out | apply below_alloc | apply pw_below_drewN | apply below_drew1) | exact HB.out)⟩⟩
                     as_aux_lemma =>
                      clear H'
                      try clear c1
                      try clear c2
                      try clear p2
                      try clear c3
                      try clear c4
                      try clear c5
                      try clear c6
                      try clear c7
                      try clear c8
                      try clear c9
                      try clear c10
                      try clear c11
                      try clear c11b0
                      try clear c11b1
                      try clear c12
                      try clear c18
                      try clear c18b0
                      try clear c18b1
                      try clear c19
                      try clear c21
                      try clear c25
                      try clear c25b0
                      try clear c25b1
                      try clear c25b2
                      try clear c26
                      try clear c27
                      try clear c27b0
                      try clear c27b1
                      try clear c27b2
                      try clear c28
                      try clear c29
                      try clear c30
                      try clear c31
                      try clear c32
                      try clear c33
                      try clear c34
                      try clear c35
                      try clear c36
                      try clear c37
                      try clear c38
                      try clear c39
                      try clear c39b0
                      try clear c39b1
                      try clear c39b2
                      try clear c40
                      try clear c40b0
                      try clear c40b1
                      try clear c40b2
                      try clear c42
                      try clear c43
                      try clear c50
                      try clear c58
                      try clear c58b0
                      try clear c58b1
                      try clear c59
                      try clear c67
                      try clear c67b0
                      try clear c67b1
                      try clear c68
                      try clear c70
                      try clear c72
                      try clear c73
                      try clear c73b0
                      try clear c73b1
                      try clear c78
                      try clear c82
                      try clear c84
                      try clear c85
                      try clear c85b0
                      try clear c85b1
                      try clear c85b2
                      try clear c92
                      try clear c94
                      try clear c95
                      try clear c95b0
                      try clear c95b1
                      try clear c101
                      try clear c103
                      try clear p2
                      obtain ⟨x40_11, rfl, HA, HK11, HO_12, HO_38, HB⟩ := hrel
                      cases gk with
                      | zero => exact absurd HA.out (by simp [wF23.l0])
                      | succ k11 =>
                       have H := HA.out
                       clear HA
                       simp only [wF23.l0] at H
                       by_cases c105 : x40_11 < (t659.length : Int)
                       ·
                        rw [if_pos c105] at H
                        have c105b0 : decide (x40_11 < (t659.length : Int)) = true := dT_ c105
                        clear c105
                        by_cases c106 : 0 ≤ x40_11
                        rotate_left
                        ·
                         rw [if_neg c106] at H
                         exact absurd H (by simp)
                        rw [if_pos c106] at H
                        have c106b0 : decide (0 ≤ x40_11) = true := dT_ c106
                        clear c106
                        replace H := Option.bind_eq_some_iff.mp H
                        obtain ⟨⟨t664, t665⟩, A1070, H⟩ := H
                        replace H : (if t665 = true then (if ((rdOf ByteArray.empty t659 x40_11).size : Int) > (t609.size : Int) then (if (t664.length : Int) > 1 then (some false) else (if (rdOf ByteArray.empty t659 x40_11).toList = t609.toList then (if (t664.length : Int) < 2 then (some false) else (if ((rdOf ByteArray.empty t659 x40_11).size : Int) < (t613.size : Int) then (wF23.l0 k11 t608 t609 t613 t617 t659 (wrap64 (x40_11 + 1))) else (wF23.l0 k11 t608 t609 t613 t617 t659 (wrap64 (x40_11 + 1))))) else (if ((rdOf ByteArray.empty t659 x40_11).size : Int) < (t613.size : Int) then (if (t664.length : Int) < 2 then (some false) else (wF23.l0 k11 t608 t609 t613 t617 t659 (wrap64 (x40_11 + 1)))) else (wF23.l0 k11 t608 t609 t613 t617 t659 (wrap64 (x40_11 + 1)))))) else (if (rdOf ByteArray.empty t659 x40_11).toList = t609.toList then (if (t664.length : Int) < 2 then (some false) else (if ((rdOf ByteArray.empty t659 x40_11).size : Int) < (t613.size : Int) then (wF23.l0 k11 t608 t609 t613 t617 t659 (wrap64 (x40_11 + 1))) else (wF23.l0 k11 t608 t609 t613 t617 t659 (wrap64 (x40_11 + 1))))) else (if ((rdOf ByteArray.empty t659 x40_11).size : Int) < (t613.size : Int) then (if (t664.length : Int) < 2 then (some false) else (wF23.l0 k11 t608 t609 t613 t617 t659 (wrap64 (x40_11 + 1)))) else (wF23.l0 k11 t608 t609 t613 t617 t659 (wrap64 (x40_11 + 1)))))) else (some false)) = some true := H
                        have A107 := Aside0.mk A1070
                        clear A1070
                        by_cases c108 : t665 = true
                        rotate_left
                        ·
                         replace c108 := Bool.eq_false_iff.mpr c108
                         subst c108
                         replace H : (some false) = some true := by rw [if_neg (show ¬ (false = true) by decide)] at H; exact H
                         exact absurd (Option.some.inj H) Bool.false_ne_true
                        subst c108
                        replace H : (if ((rdOf ByteArray.empty t659 x40_11).size : Int) > (t609.size : Int) then (if (t664.length : Int) > 1 then (some false) else (if (rdOf ByteArray.empty t659 x40_11).toList = t609.toList then (if (t664.length : Int) < 2 then (some false) else (if ((rdOf ByteArray.empty t659 x40_11).size : Int) < (t613.size : Int) then (wF23.l0 k11 t608 t609 t613 t617 t659 (wrap64 (x40_11 + 1))) else (wF23.l0 k11 t608 t609 t613 t617 t659 (wrap64 (x40_11 + 1))))) else (if ((rdOf ByteArray.empty t659 x40_11).size : Int) < (t613.size : Int) then (if (t664.length : Int) < 2 then (some false) else (wF23.l0 k11 t608 t609 t613 t617 t659 (wrap64 (x40_11 + 1)))) else (wF23.l0 k11 t608 t609 t613 t617 t659 (wrap64 (x40_11 + 1)))))) else (if (rdOf ByteArray.empty t659 x40_11).toList = t609.toList then (if (t664.length : Int) < 2 then (some false) else (if ((rdOf ByteArray.empty t659 x40_11).size : Int) < (t613.size : Int) then (wF23.l0 k11 t608 t609 t613 t617 t659 (wrap64 (x40_11 + 1))) else (wF23.l0 k11 t608 t609 t613 t617 t659 (wrap64 (x40_11 + 1))))) else (if ((rdOf ByteArray.empty t659 x40_11).size : Int) < (t613.size : Int) then (if (t664.length : Int) < 2 then (some false) else (wF23.l0 k11 t608 t609 t613 t617 t659 (wrap64 (x40_11 + 1)))) else (wF23.l0 k11 t608 t609 t613 t617 t659 (wrap64 (x40_11 + 1)))))) = some true := by rw [if_pos rfl] at H; exact H
                        by_cases c109 : ((rdOf ByteArray.empty t659 x40_11).size : Int) > (t609.size : Int)
                        ·
                         rw [if_pos c109] at H
                         have c109b0 : decide ((t609.size : Int) < ((rdOf ByteArray.empty t659 x40_11).size : Int)) = true := dT_ c109
                         have c109b1 : decide (t609.size < (rdOf ByteArray.empty t659 x40_11).size) = true := dT_ (Int.ofNat_lt.mp c109)
                         clear c109
                         by_cases c110 : (t664.length : Int) > 1
                         ·
                          rw [if_pos c110] at H
                          have c110b0 : decide (1 < (t664.length : Int)) = true := dT_ c110
                          have c110b1 : decide (1 < t664.length) = true := dT_ (by omega)
                          clear c110
                          exact absurd (Option.some.inj H) Bool.false_ne_true
                         rw [if_neg c110] at H
                         have c110b0 : decide (1 < (t664.length : Int)) = false := dF_ c110
                         have c110b1 : decide (1 < t664.length) = false := dF_ (by omega)
                         clear c110
                         by_cases c114 : (rdOf ByteArray.empty t659 x40_11).toList = t609.toList
                         ·
                          rw [if_pos c114] at H
                          have c114b0 : ((rdOf ByteArray.empty t659 x40_11).toList == t609.toList) = true := beq_iff_eq.mpr c114
                          have c114b1 : ((rdOf ByteArray.empty t659 x40_11).toList != t609.toList) = false := bne_eq_false_iff_eq.mpr c114
                          clear c114
                          by_cases c115 : (t664.length : Int) < 2
                          ·
                           rw [if_pos c115] at H
                           have c115b0 : decide ((t664.length : Int) < 2) = true := dT_ c115
                           have c115b1 : decide (t664.length < 2) = true := dT_ (by omega)
                           clear c115
                           exact absurd (Option.some.inj H) Bool.false_ne_true
                          rw [if_neg c115] at H
                          have c115b0 : decide ((t664.length : Int) < 2) = false := dF_ c115
                          have c115b1 : decide (t664.length < 2) = false := dF_ (by omega)
                          clear c115
                          by_cases c119 : ((rdOf ByteArray.empty t659 x40_11).size : Int) < (t613.size : Int)
                          ·
                           rw [if_pos c119] at H
                           have c119b0 : decide (((rdOf ByteArray.empty t659 x40_11).size : Int) < (t613.size : Int)) = true := dT_ c119
                           have c119b1 : decide ((rdOf ByteArray.empty t659 x40_11).size < t613.size) = true := dT_ (Int.ofNat_lt.mp c119)
                           clear c119
                           have H' := Aside0.mk H
                           clear H
                           obtain ⟨Ao120, co120, eo120⟩ := Kd.R_slice HO_38.out
                           subst eo120
                           have p663 : 0 ≤ (x40_11 : Int) := oD_ (by first | (with_reducible assumption) | assumption)
                           have q663 : x40_11 < (t659.length : Int) := oD_ (by first | (with_reducible assumption) | assumption)
                           obtain ⟨ad663, e663, hx663_0⟩ := Kd.at_string (Kd.R_reads' HO_38.out).2.2 x40_11 p663 q663
                           cases e663
                           replace p663 := eq_true p663
                           replace q663 := eq_true q663
                           go_wp2_with (first | ((with_reducible refine gate_callee (f := 21) rfl ?_); refine goesL_ (some 261) rfl rfl Tryz.func21 (by kernel_rfl) rfl #[.string t608, .string (rdOf ByteArray.empty t659 x40_11)] rfl (by (try simp only [List.map_toArray, List.map_cons, List.map_nil]); first | done | rfl | (simp only [List.length_drop, List.length_take]; rfl)) ?_; (with_reducible refine (iF7.calls k11 t608 (rdOf ByteArray.empty t659 x40_11) t664 true _ A107.out).mono ?_); rintro e w121 ⟨v666, rfl, ho0, hb⟩; refine ⟨_, rfl, ?_⟩; have n0_ := Aside0.mk (Kd.R_below (by (with_reducible repeat (first | apply Kd.R_alloc | apply Kd.R_drewN | apply Kd.R_drew)); exact HO_12.out) hb); have n1_ := Aside0.mk (Kd.R_below (by (with_reducible repeat (first | apply Kd.R_alloc | apply Kd.R_drewN | apply Kd.R_drew)); exact HO_38.out) hb); have n2_ := Aside0.mk (Kd.R_lower ho0 (below_size (by repeat (first | (with_reducible first | exact HB.out | apply below_alloc | apply pw_below_drewN | apply below_drew1) | exact HB.out)))); have n3_ := Aside0.mk (below_step (by repeat (first | (with_reducible first | exact HB.out | apply below_alloc | apply pw_below_drewN | apply below_drew1) | exact HB.out)) hb); clear HO_12; clear HO_38; clear HB; have HO_12 := n0_; have HO_38 := n1_; have HO667 := n2_; have HB := n3_; clear n0_ n1_ n2_ n3_; (try clear hb); (try clear hb2); (try clear hk); (try clear hi); (try clear ho0); have p668 : 0 ≤ (x40_11 : Int) := oD_ (by first | (with_reducible assumption) | assumption); have q668 : x40_11 < (t659.length : Int) := oD_ (by first | (with_reducible assumption) | assumption); obtain ⟨ad668, e668, hx668_0⟩ := Kd.at_string (Kd.R_reads' HO_38.out).2.2 x40_11 p668 q668; obtain rfl : ad663 = ad668 := (by injection e668); replace p668 := eq_true p668; replace q668 := eq_true q668; obtain ⟨Ao122, co122, eo122⟩ := Kd.R_slice HO667.out; subst eo122; have p669 : 0 ≤ (x40_11 : Int) := oD_ (by first | (with_reducible assumption) | assumption); have q669 : x40_11 < (t659.length : Int) := oD_ (by first | (with_reducible assumption) | assumption); obtain ⟨ad669, e669, hx669_0⟩ := Kd.at_string (Kd.R_reads' HO_38.out).2.2 x40_11 p669 q669; obtain rfl : ad663 = ad669 := (by injection e669); replace p669 := eq_true p669; replace q669 := eq_true q669; have p670 : 0 ≤ (x40_11 : Int) := oD_ (by first | (with_reducible assumption) | assumption); have q670 : x40_11 < (t659.length : Int) := oD_ (by first | (with_reducible assumption) | assumption); obtain ⟨ad670, e670, hx670_0⟩ := Kd.at_string (Kd.R_reads' HO_38.out).2.2 x40_11 p670 q670; obtain rfl : ad663 = ad670 := (by injection e670); replace p670 := eq_true p670; replace q670 := eq_true q670))
                           go_roundg k11
                           case measure => have := HJ6.out; have := HJ14.out; have := HJ21.out; have := HJ35.out; have := HJ53.out; have := HJ62.out; have := HJ68.out; have := HJ76.out; have := HJ80.out; have := HJ90.out; have := HK11.out; omega
                           case rel => exact ⟨(wrap64 (x40_11 + 1)), (by first | rfl | (simp; done) | (simp [*]; done)), H', ⟨by have := HJ6.out; have := HJ14.out; have := HJ21.out; have := HJ35.out; have := HJ53.out; have := HJ62.out; have := HJ68.out; have := HJ76.out; have := HJ80.out; have := HJ90.out; have := HK11.out; omega⟩, ⟨by (with_reducible repeat (first | apply Kd.R_alloc | apply Kd.R_drewN | apply Kd.R_drew)); exact HO_12.out⟩, ⟨by (with_reducible repeat (first | apply Kd.R_alloc | apply Kd.R_drewN | apply Kd.R_drew)); exact HO_38.out⟩, ⟨by repeat (first | (with_reducible first | exact HB.out | apply below_alloc | apply pw_below_drewN | apply below_drew1) | exact HB.out)⟩⟩
                          rw [if_neg c119] at H
                          have c119b0 : decide (((rdOf ByteArray.empty t659 x40_11).size : Int) < (t613.size : Int)) = false := dF_ c119
                          have c119b1 : decide ((rdOf ByteArray.empty t659 x40_11).size < t613.size) = false := dF_ (fun h => c119 (Int.ofNat_lt.mpr h))
                          clear c119
                          have H' := Aside0.mk H
                          clear H
                          obtain ⟨Ao123, co123, eo123⟩ := Kd.R_slice HO_38.out
                          subst eo123
                          have p663 : 0 ≤ (x40_11 : Int) := oD_ (by first | (with_reducible assumption) | assumption)
                          have q663 : x40_11 < (t659.length : Int) := oD_ (by first | (with_reducible assumption) | assumption)
                          obtain ⟨ad663, e663, hx663_0⟩ := Kd.at_string (Kd.R_reads' HO_38.out).2.2 x40_11 p663 q663
                          cases e663
                          replace p663 := eq_true p663
                          replace q663 := eq_true q663
                          go_wp2_with (first | ((with_reducible refine gate_callee (f := 21) rfl ?_); refine goesL_ (some 261) rfl rfl Tryz.func21 (by kernel_rfl) rfl #[.string t608, .string (rdOf ByteArray.empty t659 x40_11)] rfl (by (try simp only [List.map_toArray, List.map_cons, List.map_nil]); first | done | rfl | (simp only [List.length_drop, List.length_take]; rfl)) ?_; (with_reducible refine (iF7.calls k11 t608 (rdOf ByteArray.empty t659 x40_11) t664 true _ A107.out).mono ?_); rintro e w124 ⟨v666, rfl, ho0, hb⟩; refine ⟨_, rfl, ?_⟩; have n0_ := Aside0.mk (Kd.R_below (by (with_reducible repeat (first | apply Kd.R_alloc | apply Kd.R_drewN | apply Kd.R_drew)); exact HO_12.out) hb); have n1_ := Aside0.mk (Kd.R_below (by (with_reducible repeat (first | apply Kd.R_alloc | apply Kd.R_drewN | apply Kd.R_drew)); exact HO_38.out) hb); have n2_ := Aside0.mk (Kd.R_lower ho0 (below_size (by repeat (first | (with_reducible first | exact HB.out | apply below_alloc | apply pw_below_drewN | apply below_drew1) | exact HB.out)))); have n3_ := Aside0.mk (below_step (by repeat (first | (with_reducible first | exact HB.out | apply below_alloc | apply pw_below_drewN | apply below_drew1) | exact HB.out)) hb); clear HO_12; clear HO_38; clear HB; have HO_12 := n0_; have HO_38 := n1_; have HO667 := n2_; have HB := n3_; clear n0_ n1_ n2_ n3_; (try clear hb); (try clear hb2); (try clear hk); (try clear hi); (try clear ho0); have p668 : 0 ≤ (x40_11 : Int) := oD_ (by first | (with_reducible assumption) | assumption); have q668 : x40_11 < (t659.length : Int) := oD_ (by first | (with_reducible assumption) | assumption); obtain ⟨ad668, e668, hx668_0⟩ := Kd.at_string (Kd.R_reads' HO_38.out).2.2 x40_11 p668 q668; obtain rfl : ad663 = ad668 := (by injection e668); replace p668 := eq_true p668; replace q668 := eq_true q668; obtain ⟨Ao125, co125, eo125⟩ := Kd.R_slice HO667.out; subst eo125; have p669 : 0 ≤ (x40_11 : Int) := oD_ (by first | (with_reducible assumption) | assumption); have q669 : x40_11 < (t659.length : Int) := oD_ (by first | (with_reducible assumption) | assumption); obtain ⟨ad669, e669, hx669_0⟩ := Kd.at_string (Kd.R_reads' HO_38.out).2.2 x40_11 p669 q669; obtain rfl : ad663 = ad669 := (by injection e669); replace p669 := eq_true p669; replace q669 := eq_true q669; have p670 : 0 ≤ (x40_11 : Int) := oD_ (by first | (with_reducible assumption) | assumption); have q670 : x40_11 < (t659.length : Int) := oD_ (by first | (with_reducible assumption) | assumption); obtain ⟨ad670, e670, hx670_0⟩ := Kd.at_string (Kd.R_reads' HO_38.out).2.2 x40_11 p670 q670; obtain rfl : ad663 = ad670 := (by injection e670); replace p670 := eq_true p670; replace q670 := eq_true q670))
                          go_roundg k11
                          case measure => have := HJ6.out; have := HJ14.out; have := HJ21.out; have := HJ35.out; have := HJ53.out; have := HJ62.out; have := HJ68.out; have := HJ76.out; have := HJ80.out; have := HJ90.out; have := HK11.out; omega
                          case rel => exact ⟨(wrap64 (x40_11 + 1)), (by first | rfl | (simp; done) | (simp [*]; done)), H', ⟨by have := HJ6.out; have := HJ14.out; have := HJ21.out; have := HJ35.out; have := HJ53.out; have := HJ62.out; have := HJ68.out; have := HJ76.out; have := HJ80.out; have := HJ90.out; have := HK11.out; omega⟩, ⟨by (with_reducible repeat (first | apply Kd.R_alloc | apply Kd.R_drewN | apply Kd.R_drew)); exact HO_12.out⟩, ⟨by (with_reducible repeat (first | apply Kd.R_alloc | apply Kd.R_drewN | apply Kd.R_drew)); exact HO_38.out⟩, ⟨by repeat (first | (with_reducible first | exact HB.out | apply below_alloc | apply pw_below_drewN | apply below_drew1) | exact HB.out)⟩⟩
                         rw [if_neg c114] at H
                         have c114b0 : ((rdOf ByteArray.empty t659 x40_11).toList == t609.toList) = false := beq_eq_false_iff_ne.mpr c114
                         have c114b1 : ((rdOf ByteArray.empty t659 x40_11).toList != t609.toList) = true := bne_iff_ne.mpr c114
                         by_cases c126 : ((rdOf ByteArray.empty t659 x40_11).size : Int) < (t613.size : Int)
                         ·
                          rw [if_pos c126] at H
                          have c126b0 : decide (((rdOf ByteArray.empty t659 x40_11).size : Int) < (t613.size : Int)) = true := dT_ c126
                          have c126b1 : decide ((rdOf ByteArray.empty t659 x40_11).size < t613.size) = true := dT_ (Int.ofNat_lt.mp c126)
                          clear c126
                          by_cases c127 : (t664.length : Int) < 2
                          ·
                           rw [if_pos c127] at H
                           have c127b0 : decide ((t664.length : Int) < 2) = true := dT_ c127
                           have c127b1 : decide (t664.length < 2) = true := dT_ (by omega)
                           clear c127
                           exact absurd (Option.some.inj H) Bool.false_ne_true
                          rw [if_neg c127] at H
                          have c127b0 : decide ((t664.length : Int) < 2) = false := dF_ c127
                          have c127b1 : decide (t664.length < 2) = false := dF_ (by omega)
                          clear c127
                          have H' := Aside0.mk H
                          clear H
                          obtain ⟨Ao131, co131, eo131⟩ := Kd.R_slice HO_38.out
                          subst eo131
                          have p663 : 0 ≤ (x40_11 : Int) := oD_ (by first | (with_reducible assumption) | assumption)
                          have q663 : x40_11 < (t659.length : Int) := oD_ (by first | (with_reducible assumption) | assumption)
                          obtain ⟨ad663, e663, hx663_0⟩ := Kd.at_string (Kd.R_reads' HO_38.out).2.2 x40_11 p663 q663
                          cases e663
                          replace p663 := eq_true p663
                          replace q663 := eq_true q663
                          go_wp2_with (first | ((with_reducible refine gate_callee (f := 21) rfl ?_); refine goesL_ (some 261) rfl rfl Tryz.func21 (by kernel_rfl) rfl #[.string t608, .string (rdOf ByteArray.empty t659 x40_11)] rfl (by (try simp only [List.map_toArray, List.map_cons, List.map_nil]); first | done | rfl | (simp only [List.length_drop, List.length_take]; rfl)) ?_; (with_reducible refine (iF7.calls k11 t608 (rdOf ByteArray.empty t659 x40_11) t664 true _ A107.out).mono ?_); rintro e w132 ⟨v666, rfl, ho0, hb⟩; refine ⟨_, rfl, ?_⟩; have n0_ := Aside0.mk (Kd.R_below (by (with_reducible repeat (first | apply Kd.R_alloc | apply Kd.R_drewN | apply Kd.R_drew)); exact HO_12.out) hb); have n1_ := Aside0.mk (Kd.R_below (by (with_reducible repeat (first | apply Kd.R_alloc | apply Kd.R_drewN | apply Kd.R_drew)); exact HO_38.out) hb); have n2_ := Aside0.mk (Kd.R_lower ho0 (below_size (by repeat (first | (with_reducible first | exact HB.out | apply below_alloc | apply pw_below_drewN | apply below_drew1) | exact HB.out)))); have n3_ := Aside0.mk (below_step (by repeat (first | (with_reducible first | exact HB.out | apply below_alloc | apply pw_below_drewN | apply below_drew1) | exact HB.out)) hb); clear HO_12; clear HO_38; clear HB; have HO_12 := n0_; have HO_38 := n1_; have HO667 := n2_; have HB := n3_; clear n0_ n1_ n2_ n3_; (try clear hb); (try clear hb2); (try clear hk); (try clear hi); (try clear ho0); have p668 : 0 ≤ (x40_11 : Int) := oD_ (by first | (with_reducible assumption) | assumption); have q668 : x40_11 < (t659.length : Int) := oD_ (by first | (with_reducible assumption) | assumption); obtain ⟨ad668, e668, hx668_0⟩ := Kd.at_string (Kd.R_reads' HO_38.out).2.2 x40_11 p668 q668; obtain rfl : ad663 = ad668 := (by injection e668); replace p668 := eq_true p668; replace q668 := eq_true q668; obtain ⟨Ao133, co133, eo133⟩ := Kd.R_slice HO667.out; subst eo133; have p669 : 0 ≤ (x40_11 : Int) := oD_ (by first | (with_reducible assumption) | assumption); have q669 : x40_11 < (t659.length : Int) := oD_ (by first | (with_reducible assumption) | assumption); obtain ⟨ad669, e669, hx669_0⟩ := Kd.at_string (Kd.R_reads' HO_38.out).2.2 x40_11 p669 q669; obtain rfl : ad663 = ad669 := (by injection e669); replace p669 := eq_true p669; replace q669 := eq_true q669; have p671 : 0 ≤ (x40_11 : Int) := oD_ (by first | (with_reducible assumption) | assumption); have q671 : x40_11 < (t659.length : Int) := oD_ (by first | (with_reducible assumption) | assumption); obtain ⟨ad671, e671, hx671_0⟩ := Kd.at_string (Kd.R_reads' HO_38.out).2.2 x40_11 p671 q671; obtain rfl : ad663 = ad671 := (by injection e671); replace p671 := eq_true p671; replace q671 := eq_true q671))
                          go_roundg k11
                          case measure => have := HJ6.out; have := HJ14.out; have := HJ21.out; have := HJ35.out; have := HJ53.out; have := HJ62.out; have := HJ68.out; have := HJ76.out; have := HJ80.out; have := HJ90.out; have := HK11.out; omega
                          case rel => exact ⟨(wrap64 (x40_11 + 1)), (by first | rfl | (simp; done) | (simp [*]; done)), H', ⟨by have := HJ6.out; have := HJ14.out; have := HJ21.out; have := HJ35.out; have := HJ53.out; have := HJ62.out; have := HJ68.out; have := HJ76.out; have := HJ80.out; have := HJ90.out; have := HK11.out; omega⟩, ⟨by (with_reducible repeat (first | apply Kd.R_alloc | apply Kd.R_drewN | apply Kd.R_drew)); exact HO_12.out⟩, ⟨by (with_reducible repeat (first | apply Kd.R_alloc | apply Kd.R_drewN | apply Kd.R_drew)); exact HO_38.out⟩, ⟨by repeat (first | (with_reducible first | exact HB.out | apply below_alloc | apply pw_below_drewN | apply below_drew1) | exact HB.out)⟩⟩
                         rw [if_neg c126] at H
                         have c126b0 : decide (((rdOf ByteArray.empty t659 x40_11).size : Int) < (t613.size : Int)) = false := dF_ c126
                         have c126b1 : decide ((rdOf ByteArray.empty t659 x40_11).size < t613.size) = false := dF_ (fun h => c126 (Int.ofNat_lt.mpr h))
                         clear c126
                         have H' := Aside0.mk H
                         clear H
                         obtain ⟨Ao134, co134, eo134⟩ := Kd.R_slice HO_38.out
                         subst eo134
                         have p663 : 0 ≤ (x40_11 : Int) := oD_ (by first | (with_reducible assumption) | assumption)
                         have q663 : x40_11 < (t659.length : Int) := oD_ (by first | (with_reducible assumption) | assumption)
                         obtain ⟨ad663, e663, hx663_0⟩ := Kd.at_string (Kd.R_reads' HO_38.out).2.2 x40_11 p663 q663
                         cases e663
                         replace p663 := eq_true p663
                         replace q663 := eq_true q663
                         go_wp2_with (first | ((with_reducible refine gate_callee (f := 21) rfl ?_); refine goesL_ (some 261) rfl rfl Tryz.func21 (by kernel_rfl) rfl #[.string t608, .string (rdOf ByteArray.empty t659 x40_11)] rfl (by (try simp only [List.map_toArray, List.map_cons, List.map_nil]); first | done | rfl | (simp only [List.length_drop, List.length_take]; rfl)) ?_; (with_reducible refine (iF7.calls k11 t608 (rdOf ByteArray.empty t659 x40_11) t664 true _ A107.out).mono ?_); rintro e w135 ⟨v666, rfl, ho0, hb⟩; refine ⟨_, rfl, ?_⟩; have n0_ := Aside0.mk (Kd.R_below (by (with_reducible repeat (first | apply Kd.R_alloc | apply Kd.R_drewN | apply Kd.R_drew)); exact HO_12.out) hb); have n1_ := Aside0.mk (Kd.R_below (by (with_reducible repeat (first | apply Kd.R_alloc | apply Kd.R_drewN | apply Kd.R_drew)); exact HO_38.out) hb); have n2_ := Aside0.mk (Kd.R_lower ho0 (below_size (by repeat (first | (with_reducible first | exact HB.out | apply below_alloc | apply pw_below_drewN | apply below_drew1) | exact HB.out)))); have n3_ := Aside0.mk (below_step (by repeat (first | (with_reducible first | exact HB.out | apply below_alloc | apply pw_below_drewN | apply below_drew1) | exact HB.out)) hb); clear HO_12; clear HO_38; clear HB; have HO_12 := n0_; have HO_38 := n1_; have HO667 := n2_; have HB := n3_; clear n0_ n1_ n2_ n3_; (try clear hb); (try clear hb2); (try clear hk); (try clear hi); (try clear ho0); have p668 : 0 ≤ (x40_11 : Int) := oD_ (by first | (with_reducible assumption) | assumption); have q668 : x40_11 < (t659.length : Int) := oD_ (by first | (with_reducible assumption) | assumption); obtain ⟨ad668, e668, hx668_0⟩ := Kd.at_string (Kd.R_reads' HO_38.out).2.2 x40_11 p668 q668; obtain rfl : ad663 = ad668 := (by injection e668); replace p668 := eq_true p668; replace q668 := eq_true q668; obtain ⟨Ao136, co136, eo136⟩ := Kd.R_slice HO667.out; subst eo136; have p669 : 0 ≤ (x40_11 : Int) := oD_ (by first | (with_reducible assumption) | assumption); have q669 : x40_11 < (t659.length : Int) := oD_ (by first | (with_reducible assumption) | assumption); obtain ⟨ad669, e669, hx669_0⟩ := Kd.at_string (Kd.R_reads' HO_38.out).2.2 x40_11 p669 q669; obtain rfl : ad663 = ad669 := (by injection e669); replace p669 := eq_true p669; replace q669 := eq_true q669; have p671 : 0 ≤ (x40_11 : Int) := oD_ (by first | (with_reducible assumption) | assumption); have q671 : x40_11 < (t659.length : Int) := oD_ (by first | (with_reducible assumption) | assumption); obtain ⟨ad671, e671, hx671_0⟩ := Kd.at_string (Kd.R_reads' HO_38.out).2.2 x40_11 p671 q671; obtain rfl : ad663 = ad671 := (by injection e671); replace p671 := eq_true p671; replace q671 := eq_true q671))
                         go_roundg k11
                         case measure => have := HJ6.out; have := HJ14.out; have := HJ21.out; have := HJ35.out; have := HJ53.out; have := HJ62.out; have := HJ68.out; have := HJ76.out; have := HJ80.out; have := HJ90.out; have := HK11.out; omega
                         case rel => exact ⟨(wrap64 (x40_11 + 1)), (by first | rfl | (simp; done) | (simp [*]; done)), H', ⟨by have := HJ6.out; have := HJ14.out; have := HJ21.out; have := HJ35.out; have := HJ53.out; have := HJ62.out; have := HJ68.out; have := HJ76.out; have := HJ80.out; have := HJ90.out; have := HK11.out; omega⟩, ⟨by (with_reducible repeat (first | apply Kd.R_alloc | apply Kd.R_drewN | apply Kd.R_drew)); exact HO_12.out⟩, ⟨by (with_reducible repeat (first | apply Kd.R_alloc | apply Kd.R_drewN | apply Kd.R_drew)); exact HO_38.out⟩, ⟨by repeat (first | (with_reducible first | exact HB.out | apply below_alloc | apply pw_below_drewN | apply below_drew1) | exact HB.out)⟩⟩
                        rw [if_neg c109] at H
                        have c109b0 : decide ((t609.size : Int) < ((rdOf ByteArray.empty t659 x40_11).size : Int)) = false := dF_ c109
                        have c109b1 : decide (t609.size < (rdOf ByteArray.empty t659 x40_11).size) = false := dF_ (fun h => c109 (Int.ofNat_lt.mpr h))
                        clear c109
                        by_cases c137 : (rdOf ByteArray.empty t659 x40_11).toList = t609.toList
                        ·
                         rw [if_pos c137] at H
                         have c137b0 : ((rdOf ByteArray.empty t659 x40_11).toList == t609.toList) = true := beq_iff_eq.mpr c137
                         have c137b1 : ((rdOf ByteArray.empty t659 x40_11).toList != t609.toList) = false := bne_eq_false_iff_eq.mpr c137
                         clear c137
                         by_cases c138 : (t664.length : Int) < 2
                         ·
                          rw [if_pos c138] at H
                          have c138b0 : decide ((t664.length : Int) < 2) = true := dT_ c138
                          have c138b1 : decide (t664.length < 2) = true := dT_ (by omega)
                          clear c138
                          exact absurd (Option.some.inj H) Bool.false_ne_true
                         rw [if_neg c138] at H
                         have c138b0 : decide ((t664.length : Int) < 2) = false := dF_ c138
                         have c138b1 : decide (t664.length < 2) = false := dF_ (by omega)
                         clear c138
                         by_cases c142 : ((rdOf ByteArray.empty t659 x40_11).size : Int) < (t613.size : Int)
                         ·
                          rw [if_pos c142] at H
                          have c142b0 : decide (((rdOf ByteArray.empty t659 x40_11).size : Int) < (t613.size : Int)) = true := dT_ c142
                          have c142b1 : decide ((rdOf ByteArray.empty t659 x40_11).size < t613.size) = true := dT_ (Int.ofNat_lt.mp c142)
                          clear c142
                          have H' := Aside0.mk H
                          clear H
                          obtain ⟨Ao143, co143, eo143⟩ := Kd.R_slice HO_38.out
                          subst eo143
                          have p663 : 0 ≤ (x40_11 : Int) := oD_ (by first | (with_reducible assumption) | assumption)
                          have q663 : x40_11 < (t659.length : Int) := oD_ (by first | (with_reducible assumption) | assumption)
                          obtain ⟨ad663, e663, hx663_0⟩ := Kd.at_string (Kd.R_reads' HO_38.out).2.2 x40_11 p663 q663
                          cases e663
                          replace p663 := eq_true p663
                          replace q663 := eq_true q663
                          go_wp2_with (first | ((with_reducible refine gate_callee (f := 21) rfl ?_); refine goesL_ (some 261) rfl rfl Tryz.func21 (by kernel_rfl) rfl #[.string t608, .string (rdOf ByteArray.empty t659 x40_11)] rfl (by (try simp only [List.map_toArray, List.map_cons, List.map_nil]); first | done | rfl | (simp only [List.length_drop, List.length_take]; rfl)) ?_; (with_reducible refine (iF7.calls k11 t608 (rdOf ByteArray.empty t659 x40_11) t664 true _ A107.out).mono ?_); rintro e w144 ⟨v666, rfl, ho0, hb⟩; refine ⟨_, rfl, ?_⟩; have n0_ := Aside0.mk (Kd.R_below (by (with_reducible repeat (first | apply Kd.R_alloc | apply Kd.R_drewN | apply Kd.R_drew)); exact HO_12.out) hb); have n1_ := Aside0.mk (Kd.R_below (by (with_reducible repeat (first | apply Kd.R_alloc | apply Kd.R_drewN | apply Kd.R_drew)); exact HO_38.out) hb); have n2_ := Aside0.mk (Kd.R_lower ho0 (below_size (by repeat (first | (with_reducible first | exact HB.out | apply below_alloc | apply pw_below_drewN | apply below_drew1) | exact HB.out)))); have n3_ := Aside0.mk (below_step (by repeat (first | (with_reducible first | exact HB.out | apply below_alloc | apply pw_below_drewN | apply below_drew1) | exact HB.out)) hb); clear HO_12; clear HO_38; clear HB; have HO_12 := n0_; have HO_38 := n1_; have HO667 := n2_; have HB := n3_; clear n0_ n1_ n2_ n3_; (try clear hb); (try clear hb2); (try clear hk); (try clear hi); (try clear ho0); have p668 : 0 ≤ (x40_11 : Int) := oD_ (by first | (with_reducible assumption) | assumption); have q668 : x40_11 < (t659.length : Int) := oD_ (by first | (with_reducible assumption) | assumption); obtain ⟨ad668, e668, hx668_0⟩ := Kd.at_string (Kd.R_reads' HO_38.out).2.2 x40_11 p668 q668; obtain rfl : ad663 = ad668 := (by injection e668); replace p668 := eq_true p668; replace q668 := eq_true q668; have p672 : 0 ≤ (x40_11 : Int) := oD_ (by first | (with_reducible assumption) | assumption); have q672 : x40_11 < (t659.length : Int) := oD_ (by first | (with_reducible assumption) | assumption); obtain ⟨ad672, e672, hx672_0⟩ := Kd.at_string (Kd.R_reads' HO_38.out).2.2 x40_11 p672 q672; obtain rfl : ad663 = ad672 := (by injection e672); replace p672 := eq_true p672; replace q672 := eq_true q672; obtain ⟨Ao145, co145, eo145⟩ := Kd.R_slice HO667.out; subst eo145; have p673 : 0 ≤ (x40_11 : Int) := oD_ (by first | (with_reducible assumption) | assumption); have q673 : x40_11 < (t659.length : Int) := oD_ (by first | (with_reducible assumption) | assumption); obtain ⟨ad673, e673, hx673_0⟩ := Kd.at_string (Kd.R_reads' HO_38.out).2.2 x40_11 p673 q673; obtain rfl : ad663 = ad673 := (by injection e673); replace p673 := eq_true p673; replace q673 := eq_true q673))
                          go_roundg k11
                          case measure => have := HJ6.out; have := HJ14.out; have := HJ21.out; have := HJ35.out; have := HJ53.out; have := HJ62.out; have := HJ68.out; have := HJ76.out; have := HJ80.out; have := HJ90.out; have := HK11.out; omega
                          case rel => exact ⟨(wrap64 (x40_11 + 1)), (by first | rfl | (simp; done) | (simp [*]; done)), H', ⟨by have := HJ6.out; have := HJ14.out; have := HJ21.out; have := HJ35.out; have := HJ53.out; have := HJ62.out; have := HJ68.out; have := HJ76.out; have := HJ80.out; have := HJ90.out; have := HK11.out; omega⟩, ⟨by (with_reducible repeat (first | apply Kd.R_alloc | apply Kd.R_drewN | apply Kd.R_drew)); exact HO_12.out⟩, ⟨by (with_reducible repeat (first | apply Kd.R_alloc | apply Kd.R_drewN | apply Kd.R_drew)); exact HO_38.out⟩, ⟨by repeat (first | (with_reducible first | exact HB.out | apply below_alloc | apply pw_below_drewN | apply below_drew1) | exact HB.out)⟩⟩
                         rw [if_neg c142] at H
                         have c142b0 : decide (((rdOf ByteArray.empty t659 x40_11).size : Int) < (t613.size : Int)) = false := dF_ c142
                         have c142b1 : decide ((rdOf ByteArray.empty t659 x40_11).size < t613.size) = false := dF_ (fun h => c142 (Int.ofNat_lt.mpr h))
                         clear c142
                         have H' := Aside0.mk H
                         clear H
                         obtain ⟨Ao146, co146, eo146⟩ := Kd.R_slice HO_38.out
                         subst eo146
                         have p663 : 0 ≤ (x40_11 : Int) := oD_ (by first | (with_reducible assumption) | assumption)
                         have q663 : x40_11 < (t659.length : Int) := oD_ (by first | (with_reducible assumption) | assumption)
                         obtain ⟨ad663, e663, hx663_0⟩ := Kd.at_string (Kd.R_reads' HO_38.out).2.2 x40_11 p663 q663
                         cases e663
                         replace p663 := eq_true p663
                         replace q663 := eq_true q663
                         go_wp2_with (first | ((with_reducible refine gate_callee (f := 21) rfl ?_); refine goesL_ (some 261) rfl rfl Tryz.func21 (by kernel_rfl) rfl #[.string t608, .string (rdOf ByteArray.empty t659 x40_11)] rfl (by (try simp only [List.map_toArray, List.map_cons, List.map_nil]); first | done | rfl | (simp only [List.length_drop, List.length_take]; rfl)) ?_; (with_reducible refine (iF7.calls k11 t608 (rdOf ByteArray.empty t659 x40_11) t664 true _ A107.out).mono ?_); rintro e w147 ⟨v666, rfl, ho0, hb⟩; refine ⟨_, rfl, ?_⟩; have n0_ := Aside0.mk (Kd.R_below (by (with_reducible repeat (first | apply Kd.R_alloc | apply Kd.R_drewN | apply Kd.R_drew)); exact HO_12.out) hb); have n1_ := Aside0.mk (Kd.R_below (by (with_reducible repeat (first | apply Kd.R_alloc | apply Kd.R_drewN | apply Kd.R_drew)); exact HO_38.out) hb); have n2_ := Aside0.mk (Kd.R_lower ho0 (below_size (by repeat (first | (with_reducible first | exact HB.out | apply below_alloc | apply pw_below_drewN | apply below_drew1) | exact HB.out)))); have n3_ := Aside0.mk (below_step (by repeat (first | (with_reducible first | exact HB.out | apply below_alloc | apply pw_below_drewN | apply below_drew1) | exact HB.out)) hb); clear HO_12; clear HO_38; clear HB; have HO_12 := n0_; have HO_38 := n1_; have HO667 := n2_; have HB := n3_; clear n0_ n1_ n2_ n3_; (try clear hb); (try clear hb2); (try clear hk); (try clear hi); (try clear ho0); have p668 : 0 ≤ (x40_11 : Int) := oD_ (by first | (with_reducible assumption) | assumption); have q668 : x40_11 < (t659.length : Int) := oD_ (by first | (with_reducible assumption) | assumption); obtain ⟨ad668, e668, hx668_0⟩ := Kd.at_string (Kd.R_reads' HO_38.out).2.2 x40_11 p668 q668; obtain rfl : ad663 = ad668 := (by injection e668); replace p668 := eq_true p668; replace q668 := eq_true q668; have p672 : 0 ≤ (x40_11 : Int) := oD_ (by first | (with_reducible assumption) | assumption); have q672 : x40_11 < (t659.length : Int) := oD_ (by first | (with_reducible assumption) | assumption); obtain ⟨ad672, e672, hx672_0⟩ := Kd.at_string (Kd.R_reads' HO_38.out).2.2 x40_11 p672 q672; obtain rfl : ad663 = ad672 := (by injection e672); replace p672 := eq_true p672; replace q672 := eq_true q672; obtain ⟨Ao148, co148, eo148⟩ := Kd.R_slice HO667.out; subst eo148; have p673 : 0 ≤ (x40_11 : Int) := oD_ (by first | (with_reducible assumption) | assumption); have q673 : x40_11 < (t659.length : Int) := oD_ (by first | (with_reducible assumption) | assumption); obtain ⟨ad673, e673, hx673_0⟩ := Kd.at_string (Kd.R_reads' HO_38.out).2.2 x40_11 p673 q673; obtain rfl : ad663 = ad673 := (by injection e673); replace p673 := eq_true p673; replace q673 := eq_true q673))
                         go_roundg k11
                         case measure => have := HJ6.out; have := HJ14.out; have := HJ21.out; have := HJ35.out; have := HJ53.out; have := HJ62.out; have := HJ68.out; have := HJ76.out; have := HJ80.out; have := HJ90.out; have := HK11.out; omega
                         case rel => exact ⟨(wrap64 (x40_11 + 1)), (by first | rfl | (simp; done) | (simp [*]; done)), H', ⟨by have := HJ6.out; have := HJ14.out; have := HJ21.out; have := HJ35.out; have := HJ53.out; have := HJ62.out; have := HJ68.out; have := HJ76.out; have := HJ80.out; have := HJ90.out; have := HK11.out; omega⟩, ⟨by (with_reducible repeat (first | apply Kd.R_alloc | apply Kd.R_drewN | apply Kd.R_drew)); exact HO_12.out⟩, ⟨by (with_reducible repeat (first | apply Kd.R_alloc | apply Kd.R_drewN | apply Kd.R_drew)); exact HO_38.out⟩, ⟨by repeat (first | (with_reducible first | exact HB.out | apply below_alloc | apply pw_below_drewN | apply below_drew1) | exact HB.out)⟩⟩
                        rw [if_neg c137] at H
                        have c137b0 : ((rdOf ByteArray.empty t659 x40_11).toList == t609.toList) = false := beq_eq_false_iff_ne.mpr c137
                        have c137b1 : ((rdOf ByteArray.empty t659 x40_11).toList != t609.toList) = true := bne_iff_ne.mpr c137
                        by_cases c149 : ((rdOf ByteArray.empty t659 x40_11).size : Int) < (t613.size : Int)
                        ·
                         rw [if_pos c149] at H
                         have c149b0 : decide (((rdOf ByteArray.empty t659 x40_11).size : Int) < (t613.size : Int)) = true := dT_ c149
                         have c149b1 : decide ((rdOf ByteArray.empty t659 x40_11).size < t613.size) = true := dT_ (Int.ofNat_lt.mp c149)
                         clear c149
                         by_cases c150 : (t664.length : Int) < 2
                         ·
                          rw [if_pos c150] at H
                          have c150b0 : decide ((t664.length : Int) < 2) = true := dT_ c150
                          have c150b1 : decide (t664.length < 2) = true := dT_ (by omega)
                          clear c150
                          exact absurd (Option.some.inj H) Bool.false_ne_true
                         rw [if_neg c150] at H
                         have c150b0 : decide ((t664.length : Int) < 2) = false := dF_ c150
                         have c150b1 : decide (t664.length < 2) = false := dF_ (by omega)
                         clear c150
                         have H' := Aside0.mk H
                         clear H
                         obtain ⟨Ao154, co154, eo154⟩ := Kd.R_slice HO_38.out
                         subst eo154
                         have p663 : 0 ≤ (x40_11 : Int) := oD_ (by first | (with_reducible assumption) | assumption)
                         have q663 : x40_11 < (t659.length : Int) := oD_ (by first | (with_reducible assumption) | assumption)
                         obtain ⟨ad663, e663, hx663_0⟩ := Kd.at_string (Kd.R_reads' HO_38.out).2.2 x40_11 p663 q663
                         cases e663
                         replace p663 := eq_true p663
                         replace q663 := eq_true q663
                         go_wp2_with (first | ((with_reducible refine gate_callee (f := 21) rfl ?_); refine goesL_ (some 261) rfl rfl Tryz.func21 (by kernel_rfl) rfl #[.string t608, .string (rdOf ByteArray.empty t659 x40_11)] rfl (by (try simp only [List.map_toArray, List.map_cons, List.map_nil]); first | done | rfl | (simp only [List.length_drop, List.length_take]; rfl)) ?_; (with_reducible refine (iF7.calls k11 t608 (rdOf ByteArray.empty t659 x40_11) t664 true _ A107.out).mono ?_); rintro e w155 ⟨v666, rfl, ho0, hb⟩; refine ⟨_, rfl, ?_⟩; have n0_ := Aside0.mk (Kd.R_below (by (with_reducible repeat (first | apply Kd.R_alloc | apply Kd.R_drewN | apply Kd.R_drew)); exact HO_12.out) hb); have n1_ := Aside0.mk (Kd.R_below (by (with_reducible repeat (first | apply Kd.R_alloc | apply Kd.R_drewN | apply Kd.R_drew)); exact HO_38.out) hb); have n2_ := Aside0.mk (Kd.R_lower ho0 (below_size (by repeat (first | (with_reducible first | exact HB.out | apply below_alloc | apply pw_below_drewN | apply below_drew1) | exact HB.out)))); have n3_ := Aside0.mk (below_step (by repeat (first | (with_reducible first | exact HB.out | apply below_alloc | apply pw_below_drewN | apply below_drew1) | exact HB.out)) hb); clear HO_12; clear HO_38; clear HB; have HO_12 := n0_; have HO_38 := n1_; have HO667 := n2_; have HB := n3_; clear n0_ n1_ n2_ n3_; (try clear hb); (try clear hb2); (try clear hk); (try clear hi); (try clear ho0); have p668 : 0 ≤ (x40_11 : Int) := oD_ (by first | (with_reducible assumption) | assumption); have q668 : x40_11 < (t659.length : Int) := oD_ (by first | (with_reducible assumption) | assumption); obtain ⟨ad668, e668, hx668_0⟩ := Kd.at_string (Kd.R_reads' HO_38.out).2.2 x40_11 p668 q668; obtain rfl : ad663 = ad668 := (by injection e668); replace p668 := eq_true p668; replace q668 := eq_true q668; have p672 : 0 ≤ (x40_11 : Int) := oD_ (by first | (with_reducible assumption) | assumption); have q672 : x40_11 < (t659.length : Int) := oD_ (by first | (with_reducible assumption) | assumption); obtain ⟨ad672, e672, hx672_0⟩ := Kd.at_string (Kd.R_reads' HO_38.out).2.2 x40_11 p672 q672; obtain rfl : ad663 = ad672 := (by injection e672); replace p672 := eq_true p672; replace q672 := eq_true q672; have p674 : 0 ≤ (x40_11 : Int) := oD_ (by first | (with_reducible assumption) | assumption); have q674 : x40_11 < (t659.length : Int) := oD_ (by first | (with_reducible assumption) | assumption); obtain ⟨ad674, e674, hx674_0⟩ := Kd.at_string (Kd.R_reads' HO_38.out).2.2 x40_11 p674 q674; obtain rfl : ad663 = ad674 := (by injection e674); replace p674 := eq_true p674; replace q674 := eq_true q674; obtain ⟨Ao156, co156, eo156⟩ := Kd.R_slice HO667.out; subst eo156))
                         go_roundg k11
                         case measure => have := HJ6.out; have := HJ14.out; have := HJ21.out; have := HJ35.out; have := HJ53.out; have := HJ62.out; have := HJ68.out; have := HJ76.out; have := HJ80.out; have := HJ90.out; have := HK11.out; omega
                         case rel => exact ⟨(wrap64 (x40_11 + 1)), (by first | rfl | (simp; done) | (simp [*]; done)), H', ⟨by have := HJ6.out; have := HJ14.out; have := HJ21.out; have := HJ35.out; have := HJ53.out; have := HJ62.out; have := HJ68.out; have := HJ76.out; have := HJ80.out; have := HJ90.out; have := HK11.out; omega⟩, ⟨by (with_reducible repeat (first | apply Kd.R_alloc | apply Kd.R_drewN | apply Kd.R_drew)); exact HO_12.out⟩, ⟨by (with_reducible repeat (first | apply Kd.R_alloc | apply Kd.R_drewN | apply Kd.R_drew)); exact HO_38.out⟩, ⟨by repeat (first | (with_reducible first | exact HB.out | apply below_alloc | apply pw_below_drewN | apply below_drew1) | exact HB.out)⟩⟩
                        rw [if_neg c149] at H
                        have c149b0 : decide (((rdOf ByteArray.empty t659 x40_11).size : Int) < (t613.size : Int)) = false := dF_ c149
                        have c149b1 : decide ((rdOf ByteArray.empty t659 x40_11).size < t613.size) = false := dF_ (fun h => c149 (Int.ofNat_lt.mpr h))
                        clear c149
                        have H' := Aside0.mk H
                        clear H
                        obtain ⟨Ao157, co157, eo157⟩ := Kd.R_slice HO_38.out
                        subst eo157
                        have p663 : 0 ≤ (x40_11 : Int) := oD_ (by first | (with_reducible assumption) | assumption)
                        have q663 : x40_11 < (t659.length : Int) := oD_ (by first | (with_reducible assumption) | assumption)
                        obtain ⟨ad663, e663, hx663_0⟩ := Kd.at_string (Kd.R_reads' HO_38.out).2.2 x40_11 p663 q663
                        cases e663
                        replace p663 := eq_true p663
                        replace q663 := eq_true q663
                        go_wp2_with (first | ((with_reducible refine gate_callee (f := 21) rfl ?_); refine goesL_ (some 261) rfl rfl Tryz.func21 (by kernel_rfl) rfl #[.string t608, .string (rdOf ByteArray.empty t659 x40_11)] rfl (by (try simp only [List.map_toArray, List.map_cons, List.map_nil]); first | done | rfl | (simp only [List.length_drop, List.length_take]; rfl)) ?_; (with_reducible refine (iF7.calls k11 t608 (rdOf ByteArray.empty t659 x40_11) t664 true _ A107.out).mono ?_); rintro e w158 ⟨v666, rfl, ho0, hb⟩; refine ⟨_, rfl, ?_⟩; have n0_ := Aside0.mk (Kd.R_below (by (with_reducible repeat (first | apply Kd.R_alloc | apply Kd.R_drewN | apply Kd.R_drew)); exact HO_12.out) hb); have n1_ := Aside0.mk (Kd.R_below (by (with_reducible repeat (first | apply Kd.R_alloc | apply Kd.R_drewN | apply Kd.R_drew)); exact HO_38.out) hb); have n2_ := Aside0.mk (Kd.R_lower ho0 (below_size (by repeat (first | (with_reducible first | exact HB.out | apply below_alloc | apply pw_below_drewN | apply below_drew1) | exact HB.out)))); have n3_ := Aside0.mk (below_step (by repeat (first | (with_reducible first | exact HB.out | apply below_alloc | apply pw_below_drewN | apply below_drew1) | exact HB.out)) hb); clear HO_12; clear HO_38; clear HB; have HO_12 := n0_; have HO_38 := n1_; have HO667 := n2_; have HB := n3_; clear n0_ n1_ n2_ n3_; (try clear hb); (try clear hb2); (try clear hk); (try clear hi); (try clear ho0); have p668 : 0 ≤ (x40_11 : Int) := oD_ (by first | (with_reducible assumption) | assumption); have q668 : x40_11 < (t659.length : Int) := oD_ (by first | (with_reducible assumption) | assumption); obtain ⟨ad668, e668, hx668_0⟩ := Kd.at_string (Kd.R_reads' HO_38.out).2.2 x40_11 p668 q668; obtain rfl : ad663 = ad668 := (by injection e668); replace p668 := eq_true p668; replace q668 := eq_true q668; have p672 : 0 ≤ (x40_11 : Int) := oD_ (by first | (with_reducible assumption) | assumption); have q672 : x40_11 < (t659.length : Int) := oD_ (by first | (with_reducible assumption) | assumption); obtain ⟨ad672, e672, hx672_0⟩ := Kd.at_string (Kd.R_reads' HO_38.out).2.2 x40_11 p672 q672; obtain rfl : ad663 = ad672 := (by injection e672); replace p672 := eq_true p672; replace q672 := eq_true q672; have p674 : 0 ≤ (x40_11 : Int) := oD_ (by first | (with_reducible assumption) | assumption); have q674 : x40_11 < (t659.length : Int) := oD_ (by first | (with_reducible assumption) | assumption); obtain ⟨ad674, e674, hx674_0⟩ := Kd.at_string (Kd.R_reads' HO_38.out).2.2 x40_11 p674 q674; obtain rfl : ad663 = ad674 := (by injection e674); replace p674 := eq_true p674; replace q674 := eq_true q674))
                        go_roundg k11
                        case measure => have := HJ6.out; have := HJ14.out; have := HJ21.out; have := HJ35.out; have := HJ53.out; have := HJ62.out; have := HJ68.out; have := HJ76.out; have := HJ80.out; have := HJ90.out; have := HK11.out; omega
                        case rel => exact ⟨(wrap64 (x40_11 + 1)), (by first | rfl | (simp; done) | (simp [*]; done)), H', ⟨by have := HJ6.out; have := HJ14.out; have := HJ21.out; have := HJ35.out; have := HJ53.out; have := HJ62.out; have := HJ68.out; have := HJ76.out; have := HJ80.out; have := HJ90.out; have := HK11.out; omega⟩, ⟨by (with_reducible repeat (first | apply Kd.R_alloc | apply Kd.R_drewN | apply Kd.R_drew)); exact HO_12.out⟩, ⟨by (with_reducible repeat (first | apply Kd.R_alloc | apply Kd.R_drewN | apply Kd.R_drew)); exact HO_38.out⟩, ⟨by repeat (first | (with_reducible first | exact HB.out | apply below_alloc | apply pw_below_drewN | apply below_drew1) | exact HB.out)⟩⟩
                       rw [if_neg c105] at H
                       have c105b0 : decide (x40_11 < (t659.length : Int)) = false := dF_ c105
                       clear c105
                       have H' := Aside0.mk H
                       clear H
                       obtain ⟨Ao161, co161, eo161⟩ := Kd.R_slice HO_38.out
                       subst eo161
                       go_wp2
                       go_loopg [43] k11 (fun kq v43 w' => ∃ (x43_12 : Int), v43 = .int .i64 x43_12 ∧ Aside0 (wF23.l1 kq t617 t659 x43_12 = some true) ∧ Aside0 (kq ≤ k11) ∧ Aside0 (Kd.R Kd.string 9 w' w.heap.size (fun k_ => some k_ ≠ ((.slice Ao161 t659.length co161) : Value).ownBlock) v619 t617) ∧ Aside0 (Kd.R Kd.string 9 w' w.heap.size (fun k_ => some k_ ≠ (v619 : Value).ownBlock) (.slice Ao161 t659.length co161) t659) ∧ Aside0 (Below w.heap.size w w'))
                       case atStart => exact ⟨(0), (by first | rfl | (simp; done) | (simp [*]; done)), H', ⟨Nat.le_refl _⟩, ⟨by (with_reducible repeat (first | apply Kd.R_alloc | apply Kd.R_drewN | apply Kd.R_drew)); exact HO_12.out⟩, ⟨by (with_reducible repeat (first | apply Kd.R_alloc | apply Kd.R_drewN | apply Kd.R_drew)); exact HO_38.out⟩, ⟨by repeat (first | (with_reducible first | exact HB.out | apply below_alloc | apply pw_below_drewN | apply below_drew1) | exact HB.out)⟩⟩
                       as_aux_lemma =>
                        clear H'
                        try clear c1
                        try clear c2
                        try clear p2
                        try clear c3
                        try clear c4
                        try clear c5
                        try clear c6
                        try clear p6
                        try clear q6
                        try clear hx6
                        try clear c7
                        try clear c8
                        try clear c9
                        try clear c10
                        try clear c11
                        try clear c11b0
                        try clear c11b1
                        try clear c12
                        try clear c13
                        try clear c14
                        try clear c15
                        try clear c18
                        try clear c18b0
                        try clear c18b1
                        try clear c19
                        try clear c21
                        try clear c25
                        try clear c25b0
                        try clear c25b1
                        try clear c25b2
                        try clear c26
                        try clear c27
                        try clear c27b0
                        try clear c27b1
                        try clear c27b2
                        try clear c28
                        try clear c29
                        try clear c30
                        try clear c31
                        try clear c32
                        try clear c33
                        try clear c34
                        try clear c35
                        try clear c36
                        try clear c37
                        try clear c38
                        try clear c39
                        try clear c39b0
                        try clear c39b1
                        try clear c39b2
                        try clear c40
                        try clear c40b0
                        try clear c40b1
                        try clear c40b2
                        try clear c42
                        try clear c43
                        try clear c50
                        try clear c58
                        try clear c58b0
                        try clear c58b1
                        try clear c59
                        try clear p64
                        try clear p66
                        try clear q66
                        try clear hx66
                        try clear c67
                        try clear c67b0
                        try clear c67b1
                        try clear p67
                        try clear q67
                        try clear hx67
                        try clear c68
                        try clear c70
                        try clear c72
                        try clear c73
                        try clear c73b0
                        try clear c73b1
                        try clear c78
                        try clear c82
                        try clear c84
                        try clear c85
                        try clear c85b0
                        try clear c85b1
                        try clear c85b2
                        try clear c92
                        try clear c94
                        try clear c95
                        try clear c95b0
                        try clear c95b1
                        try clear c101
                        try clear c103
                        try clear c105
                        try clear c105b0
                        try clear c106
                        try clear c106b0
                        try clear c108
                        try clear c109
                        try clear c109b0
                        try clear c109b1
                        try clear c110
                        try clear c110b0
                        try clear c110b1
                        try clear c114
                        try clear c114b0
                        try clear c114b1
                        try clear c115
                        try clear c115b0
                        try clear c115b1
                        try clear c119
                        try clear c119b0
                        try clear c119b1
                        try clear c126
                        try clear c126b0
                        try clear c126b1
                        try clear c127
                        try clear c127b0
                        try clear c127b1
                        try clear c137
                        try clear c137b0
                        try clear c137b1
                        try clear c138
                        try clear c138b0
                        try clear c138b1
                        try clear c142
                        try clear c142b0
                        try clear c142b1
                        try clear c149
                        try clear c149b0
                        try clear c149b1
                        try clear c150
                        try clear c150b0
                        try clear c150b1
                        try clear hx663_0
                        try clear hx668_0
                        try clear hx669_0
                        try clear hx670_0
                        try clear hx671_0
                        try clear hx672_0
                        try clear hx673_0
                        try clear hx674_0
                        try clear p2
                        try clear p663
                        try clear p668
                        try clear p669
                        try clear p670
                        try clear p671
                        try clear p672
                        try clear p673
                        try clear p674
                        try clear q663
                        try clear q668
                        try clear q669
                        try clear q670
                        try clear q671
                        try clear q672
                        try clear q673
                        try clear q674
                        obtain ⟨x43_12, rfl, HA, HK12, HO_12, HO_38, HB⟩ := hrel
                        cases gk with
                        | zero => exact absurd HA.out (by simp [wF23.l1])
                        | succ k12 =>
                         have H := HA.out
                         clear HA
                         simp only [wF23.l1] at H
                         by_cases c162 : x43_12 < (t617.length : Int)
                         rotate_left
                         ·
                          rw [if_neg c162] at H
                          have c162b0 : decide (x43_12 < (t617.length : Int)) = false := dF_ c162
                          clear c162
                          first | obtain rfl := Option.some.inj H | clear H
                          obtain ⟨Ao181, co181, eo181⟩ := Kd.R_slice HO_12.out
                          subst eo181
                          go_wp2
                          go_ret
                          exact ⟨by first | rfl | (simp [errW_none, errW_some] <;> rfl) | (simp [*, errW_none, errW_some] <;> rfl), by repeat (first | (with_reducible first | exact HB.out | apply below_alloc | apply pw_below_drewN | apply below_drew1) | exact HB.out)⟩
                         rw [if_pos c162] at H
                         have c162b0 : decide (x43_12 < (t617.length : Int)) = true := dT_ c162
                         clear c162
                         by_cases c163 : 0 ≤ x43_12
                         rotate_left
                         ·
                          rw [if_neg c163] at H
                          exact absurd H (by simp)
                         rw [if_pos c163] at H
                         have c163b0 : decide (0 ≤ x43_12) = true := dT_ c163
                         clear c163
                         by_cases c164 : (((rdOf ByteArray.empty t617 x43_12).size : Int) % 2) = 0
                         rotate_left
                         ·
                          rw [if_neg c164] at H
                          have c164b0 : ((((rdOf ByteArray.empty t617 x43_12).size : Int) % 2) == 0) = false := beq_eq_false_iff_ne.mpr c164
                          have c164b1 : ((((rdOf ByteArray.empty t617 x43_12).size : Int) % 2) != 0) = true := bne_iff_ne.mpr c164
                          exact absurd (Option.some.inj H) Bool.false_ne_true
                         rw [if_pos c164] at H
                         have c164b0 : ((((rdOf ByteArray.empty t617 x43_12).size : Int) % 2) == 0) = true := beq_iff_eq.mpr c164
                         have c164b1 : ((((rdOf ByteArray.empty t617 x43_12).size : Int) % 2) != 0) = false := bne_eq_false_iff_eq.mpr c164
                         have c164b1t : ((Int.tmod ((rdOf ByteArray.empty t617 x43_12).size : Int) 2) != 0) = false := by rw [Int.tmod_eq_emod_of_nonneg (Int.natCast_nonneg _)]; exact c164b1
                         clear c164
                         obtain ⟨ji165, hji165⟩ : ∃ j_ : Int, (wrap64 (((rdOf ByteArray.empty t617 x43_12).size : Int) / 2)) = j_ := ⟨_, rfl⟩
                         replace H : (if 0 ≤ (ji165) then (if (ji165) ≤ ((rdOf ByteArray.empty t617 x43_12).size : Int) then (if ((rdOf ByteArray.empty t617 x43_12).extract 0 ((ji165) : Int).toNat).toList = ((rdOf ByteArray.empty t617 x43_12).extract ((ji165) : Int).toNat (rdOf ByteArray.empty t617 x43_12).size).toList then ((wF25.f k12 t659 (rdOf ByteArray.empty t617 x43_12)).bind fun t680 => (if t680 = true then (wF23.l1 k12 t617 t659 (wrap64 (x43_12 + 1))) else (some false))) else (some false)) else (none)) else (none)) = some true := by first | (rw [hji165] at H; exact H) | (simp only [hji165] at H ⊢; exact H)
                         have hji165w : (IntKind.i64.wrap (((rdOf ByteArray.empty t617 x43_12).size : Int) / 2)) = ji165 := (i64_w _).trans hji165
                         by_cases c166 : 0 ≤ (ji165)
                         rotate_left
                         ·
                          rw [if_neg c166] at H
                          exact absurd H (by simp)
                         rw [if_pos c166] at H
                         have c166b0 := eq_true c166
                         have c166b1 : decide (0 ≤ (ji165)) = true := dT_ c166
                         clear c166
                         by_cases c167 : (ji165) ≤ ((rdOf ByteArray.empty t617 x43_12).size : Int)
                         rotate_left
                         ·
                          rw [if_neg c167] at H
                          exact absurd H (by simp)
                         rw [if_pos c167] at H
                         have c167b0 := eq_true c167
                         have c167b1 : decide ((ji165) ≤ ((rdOf ByteArray.empty t617 x43_12).size : Int)) = true := dT_ c167
                         clear c167
                         have c168b0 := eq_true (oD_ (by first | (with_reducible assumption) | assumption) : 0 ≤ (ji165))
                         have c169b0 := eq_true (oD_ (by first | (with_reducible assumption) | assumption) : (ji165) ≤ ((rdOf ByteArray.empty t617 x43_12).size : Int))
                         by_cases c170 : ((rdOf ByteArray.empty t617 x43_12).extract 0 ((ji165) : Int).toNat).toList = ((rdOf ByteArray.empty t617 x43_12).extract ((ji165) : Int).toNat (rdOf ByteArray.empty t617 x43_12).size).toList
                         rotate_left
                         ·
                          rw [if_neg c170] at H
                          have c170b0 : (((rdOf ByteArray.empty t617 x43_12).extract 0 ((ji165) : Int).toNat).toList == ((rdOf ByteArray.empty t617 x43_12).extract ((ji165) : Int).toNat (rdOf ByteArray.empty t617 x43_12).size).toList) = false := beq_eq_false_iff_ne.mpr c170
                          have c170b1 : (((rdOf ByteArray.empty t617 x43_12).extract 0 ((ji165) : Int).toNat).toList != ((rdOf ByteArray.empty t617 x43_12).extract ((ji165) : Int).toNat (rdOf ByteArray.empty t617 x43_12).size).toList) = true := bne_iff_ne.mpr c170
                          exact absurd (Option.some.inj H) Bool.false_ne_true
                         rw [if_pos c170] at H
                         have c170b0 : (((rdOf ByteArray.empty t617 x43_12).extract 0 ((ji165) : Int).toNat).toList == ((rdOf ByteArray.empty t617 x43_12).extract ((ji165) : Int).toNat (rdOf ByteArray.empty t617 x43_12).size).toList) = true := beq_iff_eq.mpr c170
                         have c170b1 : (((rdOf ByteArray.empty t617 x43_12).extract 0 ((ji165) : Int).toNat).toList != ((rdOf ByteArray.empty t617 x43_12).extract ((ji165) : Int).toNat (rdOf ByteArray.empty t617 x43_12).size).toList) = false := bne_eq_false_iff_eq.mpr c170
                         clear c170
                         replace H := Option.bind_eq_some_iff.mp H
                         obtain ⟨t680, A1710, H⟩ := H
                         replace H : (if t680 = true then (wF23.l1 k12 t617 t659 (wrap64 (x43_12 + 1))) else (some false)) = some true := H
                         have A171 := Aside0.mk A1710
                         clear A1710
                         by_cases c172 : t680 = true
                         rotate_left
                         ·
                          replace c172 := Bool.eq_false_iff.mpr c172
                          subst c172
                          replace H : (some false) = some true := by rw [if_neg (show ¬ (false = true) by decide)] at H; exact H
                          exact absurd (Option.some.inj H) Bool.false_ne_true
                         subst c172
                         replace H : (wF23.l1 k12 t617 t659 (wrap64 (x43_12 + 1))) = some true := by rw [if_pos rfl] at H; exact H
                         have H' := Aside0.mk H
                         clear H
                         obtain ⟨Ao173, co173, eo173⟩ := Kd.R_slice HO_12.out
                         subst eo173
                         have p675 : 0 ≤ (x43_12 : Int) := oD_ (by first | (with_reducible assumption) | assumption)
                         have q675 : x43_12 < (t617.length : Int) := oD_ (by first | (with_reducible assumption) | assumption)
                         obtain ⟨ad675, e675, hx675_0⟩ := Kd.at_string (Kd.R_reads' HO_12.out).2.2 x43_12 p675 q675
                         cases e675
                         replace p675 := eq_true p675
                         replace q675 := eq_true q675
                         try go_wp2
                         have n0_ := Aside0.mk (Kd.R_drew HO_12.out)
                         have n1_ := Aside0.mk (Kd.R_drew HO_38.out)
                         have n2_ := Aside0.mk (below_drew1 HB.out)
                         clear HO_12
                         clear HO_38
                         clear HB
                         have HO_12 := n0_
                         have HO_38 := n1_
                         have HB := n2_
                         clear n0_ n1_ n2_
                         have p676 : 0 ≤ (x43_12 : Int) := oD_ (by first | (with_reducible assumption) | assumption)
                         have q676 : x43_12 < (t617.length : Int) := oD_ (by first | (with_reducible assumption) | assumption)
                         obtain ⟨ad676, e676, hx676_0⟩ := Kd.at_string (Kd.R_reads' HO_12.out).2.2 x43_12 p676 q676
                         obtain rfl : ad675 = ad676 := (by injection e676)
                         replace p676 := eq_true p676
                         replace q676 := eq_true q676
                         have p677 : 0 ≤ (x43_12 : Int) := oD_ (by first | (with_reducible assumption) | assumption)
                         have q677 : x43_12 < (t617.length : Int) := oD_ (by first | (with_reducible assumption) | assumption)
                         obtain ⟨ad677, e677, hx677_0⟩ := Kd.at_string (Kd.R_reads' HO_12.out).2.2 x43_12 p677 q677
                         obtain rfl : ad675 = ad677 := (by injection e677)
                         replace p677 := eq_true p677
                         replace q677 := eq_true q677
                         have p678 : 0 ≤ (x43_12 : Int) := oD_ (by first | (with_reducible assumption) | assumption)
                         have q678 : x43_12 < (t617.length : Int) := oD_ (by first | (with_reducible assumption) | assumption)
                         obtain ⟨ad678, e678, hx678_0⟩ := Kd.at_string (Kd.R_reads' HO_12.out).2.2 x43_12 p678 q678
                         obtain rfl : ad675 = ad678 := (by injection e678)
                         replace p678 := eq_true p678
                         replace q678 := eq_true q678
                         have p679 : 0 ≤ (x43_12 : Int) := oD_ (by first | (with_reducible assumption) | assumption)
                         have q679 : x43_12 < (t617.length : Int) := oD_ (by first | (with_reducible assumption) | assumption)
                         obtain ⟨ad679, e679, hx679_0⟩ := Kd.at_string (Kd.R_reads' HO_12.out).2.2 x43_12 p679 q679
                         obtain rfl : ad675 = ad679 := (by injection e679)
                         replace p679 := eq_true p679
                         replace q679 := eq_true q679
                         as_aux_lemma =>
                          refine start_ (n := 31) (S := fun w' => w'.cell? (ad675.add (x43_12).toNat) = some (.string (rdOf ByteArray.empty t617 x43_12)) ∧ w'.cell? (ad675.add (x43_12).toNat) = some (.string (rdOf ByteArray.empty t617 x43_12)) ∧ w'.cell? (ad675.add (x43_12).toNat) = some (.string (rdOf ByteArray.empty t617 x43_12)) ∧ w'.cell? (ad675.add (x43_12).toNat) = some (.string (rdOf ByteArray.empty t617 x43_12))) (ds := []) #[false, false, false, false, false, false, false, false, false, false, false, false, false, false, false, false, false, false, false, false, false, false, false, false, false, false, false, false, false, false, false] (by kernel_rfl) rfl rfl ⟨hx676_0, hx677_0, hx678_0, hx679_0⟩ (fun hHeld => ?_); refine with_tabW wF23.tab57 wF23.bits57 (fun HT_ HW_ => ?_)
                          generalize wr.drew = w174 at HO_12 HO_38 HB hx676_0 hx677_0 hx678_0 hx679_0 hHeld ⊢
                          refine pure_ (i := 0) (N := some 321) (v := ?_) (a' := ?_) #[true, false, false, false, false, false, false, false, false, false, false, false, false, false, false, false, false, false, false, false, false, false, false, false, false, false, false, false, false, false, false] rfl rfl (any_of HT_.out (by kernel_rfl)) (fun _ _ _ h => h) (Or.inl ⟨by rfl, ?_⟩) ?_ ?_
                          rotate_left
                          ·
                           intro w'
                           go_simp
                           (try simp only [c164b1, c164b1t, c170b1])
                           with_reducible rfl
                          rotate_left
                          ·
                           simp only [Act.put, List.setIfInBounds_toArray, List.set_cons_zero, List.set_cons_succ, i64_w, i32_w]
                           rfl
                          refine pure_ (i := 1) (N := some 322) (v := ?_) (a' := ?_) #[true, true, false, false, false, false, false, false, false, false, false, false, false, false, false, false, false, false, false, false, false, false, false, false, false, false, false, false, false, false, false] rfl rfl (any_of HT_.out (by kernel_rfl)) (fun _ _ _ h => h) (Or.inl ⟨by rfl, ?_⟩) ?_ ?_
                          rotate_left
                          ·
                           intro w'
                           go_simp
                           (try simp only [c164b1, c164b1t, c170b1])
                           with_reducible rfl
                          rotate_left
                          ·
                           simp only [Act.put, List.setIfInBounds_toArray, List.set_cons_zero, List.set_cons_succ, i64_w, i32_w]
                           rfl
                          refine pure_ (i := 2) (N := some 323) (v := ?_) (a' := ?_) #[true, true, true, false, false, false, false, false, false, false, false, false, false, false, false, false, false, false, false, false, false, false, false, false, false, false, false, false, false, false, false] rfl rfl (any_of HT_.out (by kernel_rfl)) (fun _ _ _ h => h) (Or.inl ⟨by rfl, ?_⟩) ?_ ?_
                          rotate_left
                          ·
                           intro w'
                           go_simp
                           (try simp only [c164b1, c164b1t, c170b1])
                           with_reducible rfl
                          rotate_left
                          ·
                           simp only [Act.put, List.setIfInBounds_toArray, List.set_cons_zero, List.set_cons_succ, i64_w, i32_w]
                           rfl
                          refine take_ (i := 3) (N := some 324) (v := ?_) (a' := ?_) #[true, true, true, true, false, false, false, false, false, false, false, false, false, false, false, false, false, false, false, false, false, false, false, false, false, false, false, false, false, false, false] rfl rfl (take_ofW HT_.out HW_.out (by kernel_rfl)) (fun _ _ _ h => h) (Or.inl ⟨by rfl, ?_⟩) hHeld ?_ ?_
                          rotate_left
                          ·
                           rintro w' ⟨s0, s1, s2, s3⟩
                           go_simp
                           (try simp only [c164b1, c164b1t, c170b1])
                           with_reducible rfl
                          rotate_left
                          ·
                           simp only [Act.put, List.setIfInBounds_toArray, List.set_cons_zero, List.set_cons_succ, i64_w, i32_w]
                           rfl
                          refine pure_ (i := 4) (N := some 325) (v := ?_) (a' := ?_) #[true, true, true, true, true, false, false, false, false, false, false, false, false, false, false, false, false, false, false, false, false, false, false, false, false, false, false, false, false, false, false] rfl rfl (any_of HT_.out (by kernel_rfl)) (fun _ _ _ h => h) (Or.inl ⟨by rfl, ?_⟩) ?_ ?_
                          rotate_left
                          ·
                           intro w'
                           go_simp
                           (try simp only [c164b1, c164b1t, c170b1])
                           with_reducible rfl
                          rotate_left
                          ·
                           simp only [Act.put, List.setIfInBounds_toArray, List.set_cons_zero, List.set_cons_succ, i64_w, i32_w]
                           rfl
                          refine pure_ (i := 5) (N := some 326) (v := ?_) (a' := ?_) #[true, true, true, true, true, true, false, false, false, false, false, false, false, false, false, false, false, false, false, false, false, false, false, false, false, false, false, false, false, false, false] rfl rfl (any_of HT_.out (by kernel_rfl)) (fun _ _ _ h => h) (Or.inl ⟨by rfl, ?_⟩) ?_ ?_
                          rotate_left
                          ·
                           intro w'
                           go_simp
                           (try simp only [c164b1, c164b1t, c170b1])
                           with_reducible rfl
                          rotate_left
                          ·
                           simp only [Act.put, List.setIfInBounds_toArray, List.set_cons_zero, List.set_cons_succ, i64_w, i32_w]
                           rfl
                          refine pure_ (i := 6) (N := some 327) (v := ?_) (a' := ?_) #[true, true, true, true, true, true, true, false, false, false, false, false, false, false, false, false, false, false, false, false, false, false, false, false, false, false, false, false, false, false, false] rfl rfl (any_of HT_.out (by kernel_rfl)) (fun _ _ _ h => h) (Or.inl ⟨by rfl, ?_⟩) ?_ ?_
                          rotate_left
                          ·
                           intro w'
                           go_simp
                           (try simp only [c164b1, c164b1t, c170b1])
                           with_reducible rfl
                          rotate_left
                          ·
                           simp only [Act.put, List.setIfInBounds_toArray, List.set_cons_zero, List.set_cons_succ, i64_w, i32_w]
                           rfl
                          refine pure_ (i := 7) (N := some 328) (v := ?_) (a' := ?_) #[true, true, true, true, true, true, true, true, false, false, false, false, false, false, false, false, false, false, false, false, false, false, false, false, false, false, false, false, false, false, false] rfl rfl (any_of HT_.out (by kernel_rfl)) (fun _ _ _ h => h) (Or.inl ⟨by rfl, ?_⟩) ?_ ?_
                          rotate_left
                          ·
                           intro w'
                           go_simp
                           (try simp only [c164b1, c164b1t, c170b1])
                           with_reducible rfl
                          rotate_left
                          ·
                           simp only [Act.put, List.setIfInBounds_toArray, List.set_cons_zero, List.set_cons_succ, i64_w, i32_w]
                           rfl
                          refine pure_ (i := 8) (N := some 329) (v := ?_) (a' := ?_) #[true, true, true, true, true, true, true, true, true, false, false, false, false, false, false, false, false, false, false, false, false, false, false, false, false, false, false, false, false, false, false] rfl rfl (any_of HT_.out (by kernel_rfl)) (fun _ _ _ h => h) (Or.inl ⟨by rfl, ?_⟩) ?_ ?_
                          rotate_left
                          ·
                           intro w'
                           go_simp
                           (try simp only [c164b1, c164b1t, c170b1])
                           with_reducible rfl
                          rotate_left
                          ·
                           simp only [Act.put, List.setIfInBounds_toArray, List.set_cons_zero, List.set_cons_succ, i64_w, i32_w]
                           rfl
                          refine pure_ (i := 9) (N := some 330) (v := ?_) (a' := ?_) #[true, true, true, true, true, true, true, true, true, true, false, false, false, false, false, false, false, false, false, false, false, false, false, false, false, false, false, false, false, false, false] rfl rfl (any_of HT_.out (by kernel_rfl)) (fun _ _ _ h => h) (Or.inl ⟨by rfl, ?_⟩) ?_ ?_
                          rotate_left
                          ·
                           intro w'
                           go_simp
                           (try simp only [c164b1, c164b1t, c170b1])
                           with_reducible rfl
                          rotate_left
                          ·
                           simp only [Act.put, List.setIfInBounds_toArray, List.set_cons_zero, List.set_cons_succ, i64_w, i32_w]
                           rfl
                          refine pure_ (i := 10) (N := some 331) (v := ?_) (a' := ?_) #[true, true, true, true, true, true, true, true, true, true, true, false, false, false, false, false, false, false, false, false, false, false, false, false, false, false, false, false, false, false, false] rfl rfl (any_of HT_.out (by kernel_rfl)) (fun _ _ _ h => h) (Or.inl ⟨by rfl, ?_⟩) ?_ ?_
                          rotate_left
                          ·
                           intro w'
                           go_simp
                           (try simp only [c164b1, c164b1t, c170b1])
                           with_reducible rfl
                          rotate_left
                          ·
                           simp only [Act.put, List.setIfInBounds_toArray, List.set_cons_zero, List.set_cons_succ, i64_w, i32_w]
                           rfl
                          refine pure_ (i := 12) (N := some 333) (v := ?_) (a' := ?_) #[true, true, true, true, true, true, true, true, true, true, true, false, true, false, false, false, false, false, false, false, false, false, false, false, false, false, false, false, false, false, false] rfl rfl (any_of HT_.out (by kernel_rfl)) (fun _ _ _ h => h) (Or.inl ⟨by rfl, ?_⟩) ?_ ?_
                          rotate_left
                          ·
                           intro w'
                           go_simp
                           (try simp only [c164b1, c164b1t, c170b1])
                           with_reducible rfl
                          rotate_left
                          ·
                           simp only [Act.put, List.setIfInBounds_toArray, List.set_cons_zero, List.set_cons_succ, i64_w, i32_w]
                           rfl
                          refine pure_ (i := 14) (N := some 335) (v := ?_) (a' := ?_) #[true, true, true, true, true, true, true, true, true, true, true, false, true, false, true, false, false, false, false, false, false, false, false, false, false, false, false, false, false, false, false] rfl rfl (any_of HT_.out (by kernel_rfl)) (fun _ _ _ h => h) (Or.inl ⟨by rfl, ?_⟩) ?_ ?_
                          rotate_left
                          ·
                           intro w'
                           go_simp
                           (try simp only [c164b1, c164b1t, c170b1])
                           with_reducible rfl
                          rotate_left
                          ·
                           simp only [Act.put, List.setIfInBounds_toArray, List.set_cons_zero, List.set_cons_succ, i64_w, i32_w]
                           rfl
                          refine pure_ (i := 15) (N := some 336) (v := ?_) (a' := ?_) #[true, true, true, true, true, true, true, true, true, true, true, false, true, false, true, true, false, false, false, false, false, false, false, false, false, false, false, false, false, false, false] rfl rfl (any_of HT_.out (by kernel_rfl)) (fun _ _ _ h => h) (Or.inl ⟨by rfl, ?_⟩) ?_ ?_
                          rotate_left
                          ·
                           intro w'
                           go_simp
                           (try simp only [c164b1, c164b1t, c170b1])
                           with_reducible rfl
                          rotate_left
                          ·
                           simp only [Act.put, List.setIfInBounds_toArray, List.set_cons_zero, List.set_cons_succ, i64_w, i32_w]
                           rfl
                          refine pure_ (i := 16) (N := some 337) (v := ?_) (a' := ?_) #[true, true, true, true, true, true, true, true, true, true, true, false, true, false, true, true, true, false, false, false, false, false, false, false, false, false, false, false, false, false, false] rfl rfl (any_of HT_.out (by kernel_rfl)) (fun _ _ _ h => h) (Or.inl ⟨by rfl, ?_⟩) ?_ ?_
                          rotate_left
                          ·
                           intro w'
                           go_simp
                           (try simp only [c164b1, c164b1t, c170b1])
                           with_reducible rfl
                          rotate_left
                          ·
                           simp only [Act.put, List.setIfInBounds_toArray, List.set_cons_zero, List.set_cons_succ, i64_w, i32_w]
                           rfl
                          refine pure_ (i := 18) (N := some 339) (v := ?_) (a' := ?_) #[true, true, true, true, true, true, true, true, true, true, true, false, true, false, true, true, true, false, true, false, false, false, false, false, false, false, false, false, false, false, false] rfl rfl (any_of HT_.out (by kernel_rfl)) (fun _ _ _ h => h) (Or.inl ⟨by rfl, ?_⟩) ?_ ?_
                          rotate_left
                          ·
                           intro w'
                           go_simp
                           (try simp only [c164b1, c164b1t, c170b1])
                           with_reducible rfl
                          rotate_left
                          ·
                           simp only [Act.put, List.setIfInBounds_toArray, List.set_cons_zero, List.set_cons_succ, i64_w, i32_w]
                           rfl
                          refine take_ (i := 11) (N := some 332) (v := ?_) (a' := ?_) #[true, true, true, true, true, true, true, true, true, true, true, true, true, false, true, true, true, false, true, false, false, false, false, false, false, false, false, false, false, false, false] rfl rfl (take_ofW HT_.out HW_.out (by kernel_rfl)) (fun _ _ _ h => h) (Or.inl ⟨by rfl, ?_⟩) hHeld ?_ ?_
                          rotate_left
                          ·
                           rintro w' ⟨s0, s1, s2, s3⟩
                           go_simp
                           (try simp only [c164b1, c164b1t, c170b1])
                           with_reducible rfl
                          rotate_left
                          ·
                           simp only [Act.put, List.setIfInBounds_toArray, List.set_cons_zero, List.set_cons_succ, i64_w, i32_w]
                           rfl
                          refine pure_ (i := 13) (N := some 334) (v := ?_) (a' := ?_) #[true, true, true, true, true, true, true, true, true, true, true, true, true, true, true, true, true, false, true, false, false, false, false, false, false, false, false, false, false, false, false] rfl rfl (any_of HT_.out (by kernel_rfl)) (fun _ _ _ h => h) (Or.inl ⟨by rfl, ?_⟩) ?_ ?_
                          rotate_left
                          ·
                           intro w'
                           go_simp
                           (try simp only [c164b1, c164b1t, c170b1])
                           with_reducible rfl
                          rotate_left
                          ·
                           simp only [Act.put, List.setIfInBounds_toArray, List.set_cons_zero, List.set_cons_succ, i64_w, i32_w]
                           rfl
                          refine take_ (i := 17) (N := some 338) (v := ?_) (a' := ?_) #[true, true, true, true, true, true, true, true, true, true, true, true, true, true, true, true, true, true, true, false, false, false, false, false, false, false, false, false, false, false, false] rfl rfl (take_ofW HT_.out HW_.out (by kernel_rfl)) (fun _ _ _ h => h) (Or.inl ⟨by rfl, ?_⟩) hHeld ?_ ?_
                          rotate_left
                          ·
                           rintro w' ⟨s0, s1, s2, s3⟩
                           go_simp
                           (try simp only [c164b1, c164b1t, c170b1])
                           with_reducible rfl
                          rotate_left
                          ·
                           simp only [Act.put, List.setIfInBounds_toArray, List.set_cons_zero, List.set_cons_succ, i64_w, i32_w]
                           rfl
                          refine pure_ (i := 19) (N := some 340) (v := ?_) (a' := ?_) #[true, true, true, true, true, true, true, true, true, true, true, true, true, true, true, true, true, true, true, true, false, false, false, false, false, false, false, false, false, false, false] rfl rfl (any_of HT_.out (by kernel_rfl)) (fun _ _ _ h => h) (Or.inl ⟨by rfl, ?_⟩) ?_ ?_
                          rotate_left
                          ·
                           intro w'
                           go_simp
                           (try simp only [c164b1, c164b1t, c170b1])
                           with_reducible rfl
                          rotate_left
                          ·
                           simp only [Act.put, List.setIfInBounds_toArray, List.set_cons_zero, List.set_cons_succ, i64_w, i32_w]
                           rfl
                          refine pure_ (i := 20) (N := some 341) (v := ?_) (a' := ?_) #[true, true, true, true, true, true, true, true, true, true, true, true, true, true, true, true, true, true, true, true, true, false, false, false, false, false, false, false, false, false, false] rfl rfl (any_of HT_.out (by kernel_rfl)) (fun _ _ _ h => h) (Or.inl ⟨by rfl, ?_⟩) ?_ ?_
                          rotate_left
                          ·
                           intro w'
                           go_simp
                           (try simp only [c164b1, c164b1t, c170b1])
                           with_reducible rfl
                          rotate_left
                          ·
                           simp only [Act.put, List.setIfInBounds_toArray, List.set_cons_zero, List.set_cons_succ, i64_w, i32_w]
                           rfl
                          refine pure_ (i := 21) (N := some 342) (v := ?_) (a' := ?_) #[true, true, true, true, true, true, true, true, true, true, true, true, true, true, true, true, true, true, true, true, true, true, false, false, false, false, false, false, false, false, false] rfl rfl (any_of HT_.out (by kernel_rfl)) (fun _ _ _ h => h) (Or.inl ⟨by rfl, ?_⟩) ?_ ?_
                          rotate_left
                          ·
                           intro w'
                           go_simp
                           (try simp only [c164b1, c164b1t, c170b1])
                           with_reducible rfl
                          rotate_left
                          ·
                           simp only [Act.put, List.setIfInBounds_toArray, List.set_cons_zero, List.set_cons_succ, i64_w, i32_w]
                           rfl
                          refine pure_ (i := 22) (N := some 343) (v := ?_) (a' := ?_) #[true, true, true, true, true, true, true, true, true, true, true, true, true, true, true, true, true, true, true, true, true, true, true, false, false, false, false, false, false, false, false] rfl rfl (any_of HT_.out (by kernel_rfl)) (fun _ _ _ h => h) (Or.inl ⟨by rfl, ?_⟩) ?_ ?_
                          rotate_left
                          ·
                           intro w'
                           go_simp
                           (try simp only [c164b1, c164b1t, c170b1])
                           with_reducible rfl
                          rotate_left
                          ·
                           simp only [Act.put, List.setIfInBounds_toArray, List.set_cons_zero, List.set_cons_succ, i64_w, i32_w]
                           rfl
                          refine pure_ (i := 23) (N := some 344) (v := ?_) (a' := ?_) #[true, true, true, true, true, true, true, true, true, true, true, true, true, true, true, true, true, true, true, true, true, true, true, true, false, false, false, false, false, false, false] rfl rfl (any_of HT_.out (by kernel_rfl)) (fun _ _ _ h => h) (Or.inl ⟨by rfl, ?_⟩) ?_ ?_
                          rotate_left
                          ·
                           intro w'
                           go_simp
                           (try simp only [c164b1, c164b1t, c170b1])
                           with_reducible rfl
                          rotate_left
                          ·
                           simp only [Act.put, List.setIfInBounds_toArray, List.set_cons_zero, List.set_cons_succ, i64_w, i32_w]
                           rfl
                          refine pure_ (i := 24) (N := some 345) (v := ?_) (a' := ?_) #[true, true, true, true, true, true, true, true, true, true, true, true, true, true, true, true, true, true, true, true, true, true, true, true, true, false, false, false, false, false, false] rfl rfl (any_of HT_.out (by kernel_rfl)) (fun _ _ _ h => h) (Or.inl ⟨by rfl, ?_⟩) ?_ ?_
                          rotate_left
                          ·
                           intro w'
                           go_simp
                           (try simp only [c164b1, c164b1t, c170b1])
                           with_reducible rfl
                          rotate_left
                          ·
                           simp only [Act.put, List.setIfInBounds_toArray, List.set_cons_zero, List.set_cons_succ, i64_w, i32_w]
                           rfl
                          refine pure_ (i := 25) (N := some 346) (v := ?_) (a' := ?_) #[true, true, true, true, true, true, true, true, true, true, true, true, true, true, true, true, true, true, true, true, true, true, true, true, true, true, false, false, false, false, false] rfl rfl (any_of HT_.out (by kernel_rfl)) (fun _ _ _ h => h) (Or.inl ⟨by rfl, ?_⟩) ?_ ?_
                          rotate_left
                          ·
                           intro w'
                           go_simp
                           (try simp only [c164b1, c164b1t, c170b1])
                           with_reducible rfl
                          rotate_left
                          ·
                           simp only [Act.put, List.setIfInBounds_toArray, List.set_cons_zero, List.set_cons_succ, i64_w, i32_w]
                           rfl
                          refine pure_ (i := 26) (N := some 347) (v := ?_) (a' := ?_) #[true, true, true, true, true, true, true, true, true, true, true, true, true, true, true, true, true, true, true, true, true, true, true, true, true, true, true, false, false, false, false] rfl rfl (any_of HT_.out (by kernel_rfl)) (fun _ _ _ h => h) (Or.inl ⟨by rfl, ?_⟩) ?_ ?_
                          rotate_left
                          ·
                           intro w'
                           go_simp
                           (try simp only [c164b1, c164b1t, c170b1])
                           with_reducible rfl
                          rotate_left
                          ·
                           simp only [Act.put, List.setIfInBounds_toArray, List.set_cons_zero, List.set_cons_succ, i64_w, i32_w]
                           rfl
                          refine take_ (i := 27) (N := some 348) (v := ?_) (a' := ?_) #[true, true, true, true, true, true, true, true, true, true, true, true, true, true, true, true, true, true, true, true, true, true, true, true, true, true, true, true, false, false, false] rfl rfl (take_ofW HT_.out HW_.out (by kernel_rfl)) (fun _ _ _ h => h) (Or.inl ⟨by rfl, ?_⟩) hHeld ?_ ?_
                          rotate_left
                          ·
                           rintro w' ⟨s0, s1, s2, s3⟩
                           go_simp
                           (try simp only [c164b1, c164b1t, c170b1])
                           with_reducible rfl
                          rotate_left
                          ·
                           simp only [Act.put, List.setIfInBounds_toArray, List.set_cons_zero, List.set_cons_succ, i64_w, i32_w]
                           rfl
                          refine one_ (i := 28) (N := some 349) #[true, true, true, true, true, true, true, true, true, true, true, true, true, true, true, true, true, true, true, true, true, true, true, true, true, true, true, true, true, false, false] rfl rfl (one_of HT_.out (by kernel_rfl)) (by decide) (fun K hK => ?_)
                          refine goes_ Tryz.func41 (by kernel_rfl) rfl #[.slice Ao161 t659.length co161, .string (rdOf ByteArray.empty t617 x43_12)] (by rfl) rfl rfl (by (try simp only [List.map_toArray, List.map_cons, List.map_nil]); first | done | rfl | (simp only [List.length_drop, List.length_take]; rfl)) ?_
                          with_reducible refine (wF25.calls k12 _ _ t659 (rdOf ByteArray.empty t617 x43_12) true _ ?side1 ?side2 A171.out).mono ?_
                          (case side1 => repeat (first | exact (Kd.R_reads' HO_38.out).2.2 | with_reducible first | apply cA_ | apply cN_ | apply cD_))
                          (case side2 => exact (Kd.R_reads' HO_38.out).2.1)
                          rintro e w' ⟨rfl, ⟨nd, rfl⟩⟩
                          refine ⟨_, rfl, ?_⟩
                          refine hK.out _ _ ⟨hHeld.1, hHeld.2.1, hHeld.2.2.1, hHeld.2.2.2⟩ (fun hHeld => ?_)
                          clear hK K
                          refine norm_ (a' := ?_) ?_ ?_
                          rotate_left
                          ·
                           show Act.put _ (some 349) _ = _
                           simp only [Act.put, List.setIfInBounds_toArray, List.set_cons_zero, List.set_cons_succ, i64_w, i32_w]
                           rfl
                          refine pure_ (i := 29) (N := some 350) (v := ?_) (a' := ?_) #[true, true, true, true, true, true, true, true, true, true, true, true, true, true, true, true, true, true, true, true, true, true, true, true, true, true, true, true, true, true, false] rfl rfl (any_of HT_.out (by kernel_rfl)) (fun _ _ _ h => h) (Or.inl ⟨by rfl, ?_⟩) ?_ ?_
                          rotate_left
                          ·
                           intro w'
                           go_simp
                           (try simp only [c164b1, c164b1t, c170b1])
                           with_reducible rfl
                          rotate_left
                          ·
                           simp only [Act.put, List.setIfInBounds_toArray, List.set_cons_zero, List.set_cons_succ, i64_w, i32_w]
                           rfl
                          refine pure_ (i := 30) (N := some 351) (v := ?_) (a' := ?_) #[true, true, true, true, true, true, true, true, true, true, true, true, true, true, true, true, true, true, true, true, true, true, true, true, true, true, true, true, true, true, true] rfl rfl (any_of HT_.out (by kernel_rfl)) (fun _ _ _ h => h) (Or.inl ⟨by rfl, ?_⟩) ?_ ?_
                          rotate_left
                          ·
                           intro w'
                           go_simp
                           (try simp only [c164b1, c164b1t, c170b1])
                           with_reducible rfl
                          rotate_left
                          ·
                           simp only [Act.put, List.setIfInBounds_toArray, List.set_cons_zero, List.set_cons_succ, i64_w, i32_w]
                           rfl
                          refine done_ (done_of HT_.out (by kernel_rfl)) ?_
                          try go_wp2
                          go_roundg k12
                          case measure => have := HJ6.out; have := HJ14.out; have := HJ21.out; have := HJ35.out; have := HJ53.out; have := HJ62.out; have := HJ68.out; have := HJ76.out; have := HJ80.out; have := HJ90.out; have := HK11.out; have := HK12.out; omega
                          case rel => exact ⟨(wrap64 (x43_12 + 1)), (by first | rfl | (simp; done) | (simp [*]; done)), H', ⟨by have := HJ6.out; have := HJ14.out; have := HJ21.out; have := HJ35.out; have := HJ53.out; have := HJ62.out; have := HJ68.out; have := HJ76.out; have := HJ80.out; have := HJ90.out; have := HK11.out; have := HK12.out; omega⟩, ⟨by (with_reducible repeat (first | apply Kd.R_alloc | apply Kd.R_drewN | apply Kd.R_drew)); exact HO_12.out⟩, ⟨by (with_reducible repeat (first | apply Kd.R_alloc | apply Kd.R_drewN | apply Kd.R_drew)); exact HO_38.out⟩, ⟨by repeat (first | (with_reducible first | exact HB.out | apply below_alloc | apply pw_below_drewN | apply below_drew1) | exact HB.out)⟩⟩
def wF23.Pure : Prop := ∀ (l0 : List Int), l0.length ≤ maxLen → l0.length * 1 ≤ 140737488351232 → (∀ x ∈ l0, (Lit.int .u8 x).wf = true) → ∃ k, wF23.f k l0 = some true
theorem wF23.met (w : World) (h : w.ShapedOpen Tryz.prog) : xF56.Met w := xF56.met w h
theorem wF23.walk (P : wF23.Pure) (a0 : Option Addr) (len0 cap0 : Nat) (z0 : List Int) (w : World) (hM : xF56.Met w) (w0 : (a0 = none ∧ len0 = 0 ∧ cap0 = 0 ∧ z0 = []) ∨ ∃ x, a0 = some x ∧ len0 ≤ cap0 ∧ cap0 ≤ maxLen ∧ z0.length = cap0 ∧ (∀ i, i < z0.length → w.cell? (x.add i) = some (.int .u8 (z0.getD i 0))) ∧ ∀ n ∈ z0, (Lit.int .u8 n).wf = true) (y0 : len0 * 1 ≤ 140737488351232) :
  Calls Tryz.prog 4 #[.slice a0 len0 cap0] w fun e w' => e = .returned (.bool true) ∧ Below w.heap.size w w' := by
 obtain ⟨l0, rfl, hr0, hm0, hw0, hc0⟩ := ReadsInt.ofRowC w0
 obtain ⟨k, h⟩ := P l0 hm0 y0 hw0
 refine (wF23.calls k _ _ l0 w hM (Kd.C_of_reads (d := (0 : Int)) (h1 := fun _ => rfl) hr0) hc0 h).mono ?_
 rintro e w' ⟨rfl, hd⟩
 exact ⟨rfl, hd⟩
end Go.Proofs.YtblcdgnihmcdpaaGreatDoor.P
