-- Printed by the session (wip/myprint.py).
import Derived.Test.YtdgacclmnfpajaaPFnWeightsx0
import Derived.Test.YtdgacclmnfpajaaPFnWeightsx1
import Derived.Test.YtdgacclmnfpajaaPFnWeightsx2
import Derived.Test.YtdgacclmnfpajaaPFnWeightsx3
import Derived.Test.YtdgacclmnfpajaaPFnWeightsx4
import Derived.Test.YtdgacclmnfpajaaPFnWeightsx5
namespace Go.Proofs.Ytdgacclmnfpajaa.PFnWeights
open Go.RowKit Go.Proofs.YtdgacclmnfpajaaW.PrintWords Go.Proofs.YtdgacclmnfpajaaW.PrintLast Go.Proofs.YtdgacclmnfpajaaW.PrintMore
attribute [local go_sem] max2_int min2_int max_two min_two max_three min_three max_four min_four   -- for this text's walks alone
set_option linter.unusedVariables false
set_option linter.unusedSimpArgs false

/-! ### laws_FnWeights: function 8 -/
mutual
def laws_FnWeights.j0 : Nat → Int → Int → Int → Int → Int → Int → List (S71) → Int → Int → Bool → Int → Int → Int → Int → Int → Int → Option (Bool)
  | 0, _, _, _, _, _, _, _, _, _, _, _, _, _, _, _, _ => none
  | k + 1, x5, x6, x7, x17, x18, x19, x22, x23, x24, x141, x346000, x346001, x347000, x347001, x365000, x365001 => if x141 = true then (some false) else (if x19 = 0 then ((impl_PaperThickness.f x365000 x365001).bind fun bt376 => (if bt376.2 = 0 then (if (wrap64 (x18 * bt376.1)) > (wrap64 (100 * x17)) then (some false) else (if (wrap64 ((wrap64 (x18 + 1)) * bt376.1)) ≤ (wrap64 (100 * x17)) then (some false) else (laws_FnWeights.j1 k x5 x6 x7 x22 x23 x24 x346000 x346001 x347000 x347001))) else (some false))) else (laws_FnWeights.j1 k x5 x6 x7 x22 x23 x24 x346000 x346001 x347000 x347001))
def laws_FnWeights.j1 : Nat → Int → Int → Int → List (S71) → Int → Int → Int → Int → Int → Int → Option (Bool)
  | 0, _, _, _, _, _, _, _, _, _, _ => none
  | k + 1, x5, x6, x7, x22, x23, x24, x346000, x346001, x347000, x347001 => if x24 = 0 then (laws_FnWeights.l0 k x5 x6 x7 x22 x23 0 0 x346000 x346001 x347000 x347001) else (if x7 = 0 then (if (wrap64 (100000000 * x6)) ≥ (wrap64 ((wrap64 ((wrap64 (x5 * x347000)) * x347001)) * x346000)) then (some (decide ((wrap64 (100000000 * (wrap64 (x6 - 1)))) < (wrap64 ((wrap64 ((wrap64 (x5 * x347000)) * x347001)) * x346000))))) else (some false)) else (some true))
def laws_FnWeights.l0 : Nat → Int → Int → Int → List (S71) → Int → Int → Int → Int → Int → Int → Int → Option (Bool)
  | 0, _, _, _, _, _, _, _, _, _, _, _ => none
  | k + 1, x5, x6, x7, x22, x23, x29, x30, x346000, x346001, x347000, x347001 => if x30 < (x22.length : Int) then (if 0 ≤ x30 then ((impl_PaperThickness.f ((rd_T71 x22 x30).f1.f0) ((rd_T71 x22 x30).f1.f1)).bind fun bt379 => ((impl_BlockThickness.f ((rd_T71 x22 x30).f0) bt379.1).bind fun bt382 => (if bt379.2 = 0 then (if bt382.2 = 0 then (laws_FnWeights.l0 k x5 x6 x7 x22 x23 (wrap64 (x29 + bt382.1)) (wrap64 (x30 + 1)) x346000 x346001 x347000 x347001) else (some false)) else (some false)))) else (none)) else (if (wrap64 (100 * x23)) < x29 then (some false) else (if (wrap64 (100 * x23)) ≥ (wrap64 (x29 + 100)) then (some false) else (if x7 = 0 then (if (wrap64 (100000000 * x6)) ≥ (wrap64 ((wrap64 ((wrap64 (x5 * x347000)) * x347001)) * x346000)) then (some (decide ((wrap64 (100000000 * (wrap64 (x6 - 1)))) < (wrap64 ((wrap64 ((wrap64 (x5 * x347000)) * x347001)) * x346000))))) else (some false)) else (some true))))
end
def laws_FnWeights.f (k : Nat) (l0 : List Int) : Option (Bool) := (laws_big.f l0).bind fun t339 => (if t339 = true then (some true) else ((spec_DrawStackWeight.f k l0).bind fun bt340 => ((impl_StackWeight.f k bt340.1 bt340.2.1 bt340.2.2.1 bt340.2.2.2.1 bt340.2.2.2.2).bind fun bt347 => ((spec_StackWeight.f k bt340.1 bt340.2.1 bt340.2.2.1 bt340.2.2.2.1 bt340.2.2.2.2).bind fun bt349 => ((spec_DrawSheetWeight.f k l0).bind fun bt351 => ((impl_SheetWeight.f bt351.1 bt351.2.1 bt351.2.2.1 bt351.2.2.2).bind fun bt357 => ((spec_SheetWeight.f bt351.1 bt351.2.1 bt351.2.2.1 bt351.2.2.2).bind fun bt359 => ((spec_DrawSheetsInHeight.f k l0).bind fun bt361 => ((impl_SheetsInHeight.f bt361.1 bt361.2.1 bt361.2.2).bind fun bt365 => ((spec_SheetsInHeight.f bt361.1 bt361.2.1 bt361.2.2).bind fun bt367 => ((spec_DrawPartsThickness.f k l0).bind fun t369 => ((impl_PartsThickness.f k t369).bind fun bt372 => ((spec_PartsThickness.f k t369).bind fun bt374 => (if bt347.2 = bt349.2 then (if bt347.1 = bt349.1 then (if bt357.2 = bt359.2 then (if bt357.1 = bt359.1 then (if bt365.2 = bt367.2 then (if bt365.1 = bt367.1 then (if bt372.2 = bt374.2 then (laws_FnWeights.j0 k bt340.2.2.2.2 bt347.1 bt347.2 bt361.2.2 bt365.1 bt365.2 t369 bt372.1 bt372.2 (bt372.1 != bt374.1) bt340.1 bt340.2.1 bt340.2.2.1 bt340.2.2.2.1 bt361.1 bt361.2.1) else (laws_FnWeights.j0 k bt340.2.2.2.2 bt347.1 bt347.2 bt361.2.2 bt365.1 bt365.2 t369 bt372.1 bt372.2 true bt340.1 bt340.2.1 bt340.2.2.1 bt340.2.2.2.1 bt361.1 bt361.2.1)) else (laws_FnWeights.j0 k bt340.2.2.2.2 bt347.1 bt347.2 bt361.2.2 bt365.1 bt365.2 t369 bt372.1 bt372.2 true bt340.1 bt340.2.1 bt340.2.2.1 bt340.2.2.2.1 bt361.1 bt361.2.1)) else (laws_FnWeights.j0 k bt340.2.2.2.2 bt347.1 bt347.2 bt361.2.2 bt365.1 bt365.2 t369 bt372.1 bt372.2 true bt340.1 bt340.2.1 bt340.2.2.1 bt340.2.2.2.1 bt361.1 bt361.2.1)) else (laws_FnWeights.j0 k bt340.2.2.2.2 bt347.1 bt347.2 bt361.2.2 bt365.1 bt365.2 t369 bt372.1 bt372.2 true bt340.1 bt340.2.1 bt340.2.2.1 bt340.2.2.2.1 bt361.1 bt361.2.1)) else (laws_FnWeights.j0 k bt340.2.2.2.2 bt347.1 bt347.2 bt361.2.2 bt365.1 bt365.2 t369 bt372.1 bt372.2 true bt340.1 bt340.2.1 bt340.2.2.1 bt340.2.2.2.1 bt361.1 bt361.2.1)) else (laws_FnWeights.j0 k bt340.2.2.2.2 bt347.1 bt347.2 bt361.2.2 bt365.1 bt365.2 t369 bt372.1 bt372.2 true bt340.1 bt340.2.1 bt340.2.2.1 bt340.2.2.2.1 bt361.1 bt361.2.1)) else (laws_FnWeights.j0 k bt340.2.2.2.2 bt347.1 bt347.2 bt361.2.2 bt365.1 bt365.2 t369 bt372.1 bt372.2 true bt340.1 bt340.2.1 bt340.2.2.1 bt340.2.2.2.1 bt361.1 bt361.2.1)))))))))))))))
theorem laws_FnWeights.mono_l : ∀ k, (∀ y0 y1 y2 y3 y4 y5 y6 y7 y8 y9 y10 y11 y12 y13 y14 y15, LeO (laws_FnWeights.j0 k y0 y1 y2 y3 y4 y5 y6 y7 y8 y9 y10 y11 y12 y13 y14 y15) (laws_FnWeights.j0 (k + 1) y0 y1 y2 y3 y4 y5 y6 y7 y8 y9 y10 y11 y12 y13 y14 y15)) ∧ (∀ y0 y1 y2 y3 y4 y5 y6 y7 y8 y9, LeO (laws_FnWeights.j1 k y0 y1 y2 y3 y4 y5 y6 y7 y8 y9) (laws_FnWeights.j1 (k + 1) y0 y1 y2 y3 y4 y5 y6 y7 y8 y9)) ∧ (∀ y0 y1 y2 y3 y4 y5 y6 y7 y8 y9 y10, LeO (laws_FnWeights.l0 k y0 y1 y2 y3 y4 y5 y6 y7 y8 y9 y10) (laws_FnWeights.l0 (k + 1) y0 y1 y2 y3 y4 y5 y6 y7 y8 y9 y10))
  | 0 => ⟨fun _ _ _ _ _ _ _ _ _ _ _ _ _ _ _ _ r h => by simp [laws_FnWeights.j0] at h, fun _ _ _ _ _ _ _ _ _ _ r h => by simp [laws_FnWeights.j1] at h, fun _ _ _ _ _ _ _ _ _ _ _ r h => by simp [laws_FnWeights.l0] at h⟩
  | k + 1 => by
    obtain ⟨ih0, ih1, ih2⟩ := laws_FnWeights.mono_l k
    refine ⟨?_, ?_, ?_⟩
    · intro y0 y1 y2 y3 y4 y5 y6 y7 y8 y9 y10 y11 y12 y13 y14 y15
      unfold laws_FnWeights.j0
      repeat' first
      | (with_reducible exact ih0 _ _ _ _ _ _ _ _ _ _ _ _ _ _ _ _)
      | (with_reducible exact ih1 _ _ _ _ _ _ _ _ _ _)
      | (with_reducible exact ih2 _ _ _ _ _ _ _ _ _ _ _)
      | (with_reducible exact impl_PartsThickness.mono _ _)
      | (with_reducible exact impl_StackWeight.mono _ _ _ _ _ _)
      | (with_reducible exact spec_DrawPartsThickness.mono _ _)
      | (with_reducible exact spec_DrawSheetWeight.mono _ _)
      | (with_reducible exact spec_DrawSheetsInHeight.mono _ _)
      | (with_reducible exact spec_DrawStackWeight.mono _ _)
      | (with_reducible exact spec_PartsThickness.mono _ _)
      | (with_reducible exact spec_StackWeight.mono _ _ _ _ _ _)
      | (with_reducible exact LeO.refl _)
      | (with_reducible exact LeO.none _)
      | (with_reducible refine LeO.ite ?_ ?_)
      | (with_reducible refine LeO.bind ?_ (fun _ => ?_))
      | exact ih0 _ _ _ _ _ _ _ _ _ _ _ _ _ _ _ _
      | exact ih1 _ _ _ _ _ _ _ _ _ _
      | exact ih2 _ _ _ _ _ _ _ _ _ _ _
      | exact impl_PartsThickness.mono _ _
      | exact impl_StackWeight.mono _ _ _ _ _ _
      | exact spec_DrawPartsThickness.mono _ _
      | exact spec_DrawSheetWeight.mono _ _
      | exact spec_DrawSheetsInHeight.mono _ _
      | exact spec_DrawStackWeight.mono _ _
      | exact spec_PartsThickness.mono _ _
      | exact spec_StackWeight.mono _ _ _ _ _ _
      | exact LeO.none _
      | refine LeO.ite ?_ ?_
      | refine LeO.bind ?_ (fun _ => ?_)
    · intro y0 y1 y2 y3 y4 y5 y6 y7 y8 y9
      unfold laws_FnWeights.j1
      repeat' first
      | (with_reducible exact ih0 _ _ _ _ _ _ _ _ _ _ _ _ _ _ _ _)
      | (with_reducible exact ih1 _ _ _ _ _ _ _ _ _ _)
      | (with_reducible exact ih2 _ _ _ _ _ _ _ _ _ _ _)
      | (with_reducible exact impl_PartsThickness.mono _ _)
      | (with_reducible exact impl_StackWeight.mono _ _ _ _ _ _)
      | (with_reducible exact spec_DrawPartsThickness.mono _ _)
      | (with_reducible exact spec_DrawSheetWeight.mono _ _)
      | (with_reducible exact spec_DrawSheetsInHeight.mono _ _)
      | (with_reducible exact spec_DrawStackWeight.mono _ _)
      | (with_reducible exact spec_PartsThickness.mono _ _)
      | (with_reducible exact spec_StackWeight.mono _ _ _ _ _ _)
      | (with_reducible exact LeO.refl _)
      | (with_reducible exact LeO.none _)
      | (with_reducible refine LeO.ite ?_ ?_)
      | (with_reducible refine LeO.bind ?_ (fun _ => ?_))
      | exact ih0 _ _ _ _ _ _ _ _ _ _ _ _ _ _ _ _
      | exact ih1 _ _ _ _ _ _ _ _ _ _
      | exact ih2 _ _ _ _ _ _ _ _ _ _ _
      | exact impl_PartsThickness.mono _ _
      | exact impl_StackWeight.mono _ _ _ _ _ _
      | exact spec_DrawPartsThickness.mono _ _
      | exact spec_DrawSheetWeight.mono _ _
      | exact spec_DrawSheetsInHeight.mono _ _
      | exact spec_DrawStackWeight.mono _ _
      | exact spec_PartsThickness.mono _ _
      | exact spec_StackWeight.mono _ _ _ _ _ _
      | exact LeO.none _
      | refine LeO.ite ?_ ?_
      | refine LeO.bind ?_ (fun _ => ?_)
    · intro y0 y1 y2 y3 y4 y5 y6 y7 y8 y9 y10
      unfold laws_FnWeights.l0
      repeat' first
      | (with_reducible exact ih0 _ _ _ _ _ _ _ _ _ _ _ _ _ _ _ _)
      | (with_reducible exact ih1 _ _ _ _ _ _ _ _ _ _)
      | (with_reducible exact ih2 _ _ _ _ _ _ _ _ _ _ _)
      | (with_reducible exact impl_PartsThickness.mono _ _)
      | (with_reducible exact impl_StackWeight.mono _ _ _ _ _ _)
      | (with_reducible exact spec_DrawPartsThickness.mono _ _)
      | (with_reducible exact spec_DrawSheetWeight.mono _ _)
      | (with_reducible exact spec_DrawSheetsInHeight.mono _ _)
      | (with_reducible exact spec_DrawStackWeight.mono _ _)
      | (with_reducible exact spec_PartsThickness.mono _ _)
      | (with_reducible exact spec_StackWeight.mono _ _ _ _ _ _)
      | (with_reducible exact LeO.refl _)
      | (with_reducible exact LeO.none _)
      | (with_reducible refine LeO.ite ?_ ?_)
      | (with_reducible refine LeO.bind ?_ (fun _ => ?_))
      | exact ih0 _ _ _ _ _ _ _ _ _ _ _ _ _ _ _ _
      | exact ih1 _ _ _ _ _ _ _ _ _ _
      | exact ih2 _ _ _ _ _ _ _ _ _ _ _
      | exact impl_PartsThickness.mono _ _
      | exact impl_StackWeight.mono _ _ _ _ _ _
      | exact spec_DrawPartsThickness.mono _ _
      | exact spec_DrawSheetWeight.mono _ _
      | exact spec_DrawSheetsInHeight.mono _ _
      | exact spec_DrawStackWeight.mono _ _
      | exact spec_PartsThickness.mono _ _
      | exact spec_StackWeight.mono _ _ _ _ _ _
      | exact LeO.none _
      | refine LeO.ite ?_ ?_
      | refine LeO.bind ?_ (fun _ => ?_)
theorem laws_FnWeights.mono : ∀ a0 k, LeO (laws_FnWeights.f k a0) (laws_FnWeights.f (k + 1) a0) := by
  intro a0 k
  obtain ⟨ih0, ih1, ih2⟩ := laws_FnWeights.mono_l k
  unfold laws_FnWeights.f
  repeat' first
      | (with_reducible exact ih0 _ _ _ _ _ _ _ _ _ _ _ _ _ _ _ _)
      | (with_reducible exact ih1 _ _ _ _ _ _ _ _ _ _)
      | (with_reducible exact ih2 _ _ _ _ _ _ _ _ _ _ _)
      | (with_reducible exact impl_PartsThickness.mono _ _)
      | (with_reducible exact impl_StackWeight.mono _ _ _ _ _ _)
      | (with_reducible exact spec_DrawPartsThickness.mono _ _)
      | (with_reducible exact spec_DrawSheetWeight.mono _ _)
      | (with_reducible exact spec_DrawSheetsInHeight.mono _ _)
      | (with_reducible exact spec_DrawStackWeight.mono _ _)
      | (with_reducible exact spec_PartsThickness.mono _ _)
      | (with_reducible exact spec_StackWeight.mono _ _ _ _ _ _)
      | (with_reducible exact LeO.refl _)
      | (with_reducible exact LeO.none _)
      | (with_reducible refine LeO.ite ?_ ?_)
      | (with_reducible refine LeO.bind ?_ (fun _ => ?_))
      | exact ih0 _ _ _ _ _ _ _ _ _ _ _ _ _ _ _ _
      | exact ih1 _ _ _ _ _ _ _ _ _ _
      | exact ih2 _ _ _ _ _ _ _ _ _ _ _
      | exact impl_PartsThickness.mono _ _
      | exact impl_StackWeight.mono _ _ _ _ _ _
      | exact spec_DrawPartsThickness.mono _ _
      | exact spec_DrawSheetWeight.mono _ _
      | exact spec_DrawSheetsInHeight.mono _ _
      | exact spec_DrawStackWeight.mono _ _
      | exact spec_PartsThickness.mono _ _
      | exact spec_StackWeight.mono _ _ _ _ _ _
      | exact LeO.none _
      | refine LeO.ite ?_ ?_
      | refine LeO.bind ?_ (fun _ => ?_)
set_option maxHeartbeats 8000000 in
set_option maxRecDepth 100000 in
theorem laws_FnWeights.calls (k : Nat) (A0 : Option Addr) (c0 : Nat) (l0 : List Int) (r : Bool) (w : World) (hT : Aside0 (r = true)) (hr0 : Kd.C (Kd.int .u8) w A0 l0.length l0) (hc0 : l0.length ≤ c0) (h : laws_FnWeights.f k l0 = some r) :
    Calls Try.prog 8 #[.slice A0 l0.length c0] w fun e w' => e = .returned (.bool r) ∧ Below w.heap.size w w' := by
  have hu54 := Try.underlying54
  have hu56 := Try.underlying56
  have HR0 := Aside0.mk hr0
  have HC0 := Aside0.mk hc0
  clear hr0 hc0
  have HB := Aside0.mk (Below.refl w.heap.size w)
  have H : ((laws_big.f l0).bind fun t339 => (if t339 = true then (some true) else ((spec_DrawStackWeight.f k l0).bind fun bt340 => ((impl_StackWeight.f k bt340.1 bt340.2.1 bt340.2.2.1 bt340.2.2.2.1 bt340.2.2.2.2).bind fun bt347 => ((spec_StackWeight.f k bt340.1 bt340.2.1 bt340.2.2.1 bt340.2.2.2.1 bt340.2.2.2.2).bind fun bt349 => ((spec_DrawSheetWeight.f k l0).bind fun bt351 => ((impl_SheetWeight.f bt351.1 bt351.2.1 bt351.2.2.1 bt351.2.2.2).bind fun bt357 => ((spec_SheetWeight.f bt351.1 bt351.2.1 bt351.2.2.1 bt351.2.2.2).bind fun bt359 => ((spec_DrawSheetsInHeight.f k l0).bind fun bt361 => ((impl_SheetsInHeight.f bt361.1 bt361.2.1 bt361.2.2).bind fun bt365 => ((spec_SheetsInHeight.f bt361.1 bt361.2.1 bt361.2.2).bind fun bt367 => ((spec_DrawPartsThickness.f k l0).bind fun t369 => ((impl_PartsThickness.f k t369).bind fun bt372 => ((spec_PartsThickness.f k t369).bind fun bt374 => (if bt347.2 = bt349.2 then (if bt347.1 = bt349.1 then (if bt357.2 = bt359.2 then (if bt357.1 = bt359.1 then (if bt365.2 = bt367.2 then (if bt365.1 = bt367.1 then (if bt372.2 = bt374.2 then (laws_FnWeights.j0 k bt340.2.2.2.2 bt347.1 bt347.2 bt361.2.2 bt365.1 bt365.2 t369 bt372.1 bt372.2 (bt372.1 != bt374.1) bt340.1 bt340.2.1 bt340.2.2.1 bt340.2.2.2.1 bt361.1 bt361.2.1) else (laws_FnWeights.j0 k bt340.2.2.2.2 bt347.1 bt347.2 bt361.2.2 bt365.1 bt365.2 t369 bt372.1 bt372.2 true bt340.1 bt340.2.1 bt340.2.2.1 bt340.2.2.2.1 bt361.1 bt361.2.1)) else (laws_FnWeights.j0 k bt340.2.2.2.2 bt347.1 bt347.2 bt361.2.2 bt365.1 bt365.2 t369 bt372.1 bt372.2 true bt340.1 bt340.2.1 bt340.2.2.1 bt340.2.2.2.1 bt361.1 bt361.2.1)) else (laws_FnWeights.j0 k bt340.2.2.2.2 bt347.1 bt347.2 bt361.2.2 bt365.1 bt365.2 t369 bt372.1 bt372.2 true bt340.1 bt340.2.1 bt340.2.2.1 bt340.2.2.2.1 bt361.1 bt361.2.1)) else (laws_FnWeights.j0 k bt340.2.2.2.2 bt347.1 bt347.2 bt361.2.2 bt365.1 bt365.2 t369 bt372.1 bt372.2 true bt340.1 bt340.2.1 bt340.2.2.1 bt340.2.2.2.1 bt361.1 bt361.2.1)) else (laws_FnWeights.j0 k bt340.2.2.2.2 bt347.1 bt347.2 bt361.2.2 bt365.1 bt365.2 t369 bt372.1 bt372.2 true bt340.1 bt340.2.1 bt340.2.2.1 bt340.2.2.2.1 bt361.1 bt361.2.1)) else (laws_FnWeights.j0 k bt340.2.2.2.2 bt347.1 bt347.2 bt361.2.2 bt365.1 bt365.2 t369 bt372.1 bt372.2 true bt340.1 bt340.2.1 bt340.2.2.1 bt340.2.2.2.1 bt361.1 bt361.2.1)) else (laws_FnWeights.j0 k bt340.2.2.2.2 bt347.1 bt347.2 bt361.2.2 bt365.1 bt365.2 t369 bt372.1 bt372.2 true bt340.1 bt340.2.1 bt340.2.2.1 bt340.2.2.2.1 bt361.1 bt361.2.1)))))))))))))))) = some r := h
  clear h
  replace H := Option.bind_eq_some_iff.mp H
  obtain ⟨t339, A20, H⟩ := H
  replace H : (if t339 = true then (some true) else ((spec_DrawStackWeight.f k l0).bind fun bt340 => ((impl_StackWeight.f k bt340.1 bt340.2.1 bt340.2.2.1 bt340.2.2.2.1 bt340.2.2.2.2).bind fun bt347 => ((spec_StackWeight.f k bt340.1 bt340.2.1 bt340.2.2.1 bt340.2.2.2.1 bt340.2.2.2.2).bind fun bt349 => ((spec_DrawSheetWeight.f k l0).bind fun bt351 => ((impl_SheetWeight.f bt351.1 bt351.2.1 bt351.2.2.1 bt351.2.2.2).bind fun bt357 => ((spec_SheetWeight.f bt351.1 bt351.2.1 bt351.2.2.1 bt351.2.2.2).bind fun bt359 => ((spec_DrawSheetsInHeight.f k l0).bind fun bt361 => ((impl_SheetsInHeight.f bt361.1 bt361.2.1 bt361.2.2).bind fun bt365 => ((spec_SheetsInHeight.f bt361.1 bt361.2.1 bt361.2.2).bind fun bt367 => ((spec_DrawPartsThickness.f k l0).bind fun t369 => ((impl_PartsThickness.f k t369).bind fun bt372 => ((spec_PartsThickness.f k t369).bind fun bt374 => (if bt347.2 = bt349.2 then (if bt347.1 = bt349.1 then (if bt357.2 = bt359.2 then (if bt357.1 = bt359.1 then (if bt365.2 = bt367.2 then (if bt365.1 = bt367.1 then (if bt372.2 = bt374.2 then (laws_FnWeights.j0 k bt340.2.2.2.2 bt347.1 bt347.2 bt361.2.2 bt365.1 bt365.2 t369 bt372.1 bt372.2 (bt372.1 != bt374.1) bt340.1 bt340.2.1 bt340.2.2.1 bt340.2.2.2.1 bt361.1 bt361.2.1) else (laws_FnWeights.j0 k bt340.2.2.2.2 bt347.1 bt347.2 bt361.2.2 bt365.1 bt365.2 t369 bt372.1 bt372.2 true bt340.1 bt340.2.1 bt340.2.2.1 bt340.2.2.2.1 bt361.1 bt361.2.1)) else (laws_FnWeights.j0 k bt340.2.2.2.2 bt347.1 bt347.2 bt361.2.2 bt365.1 bt365.2 t369 bt372.1 bt372.2 true bt340.1 bt340.2.1 bt340.2.2.1 bt340.2.2.2.1 bt361.1 bt361.2.1)) else (laws_FnWeights.j0 k bt340.2.2.2.2 bt347.1 bt347.2 bt361.2.2 bt365.1 bt365.2 t369 bt372.1 bt372.2 true bt340.1 bt340.2.1 bt340.2.2.1 bt340.2.2.2.1 bt361.1 bt361.2.1)) else (laws_FnWeights.j0 k bt340.2.2.2.2 bt347.1 bt347.2 bt361.2.2 bt365.1 bt365.2 t369 bt372.1 bt372.2 true bt340.1 bt340.2.1 bt340.2.2.1 bt340.2.2.2.1 bt361.1 bt361.2.1)) else (laws_FnWeights.j0 k bt340.2.2.2.2 bt347.1 bt347.2 bt361.2.2 bt365.1 bt365.2 t369 bt372.1 bt372.2 true bt340.1 bt340.2.1 bt340.2.2.1 bt340.2.2.2.1 bt361.1 bt361.2.1)) else (laws_FnWeights.j0 k bt340.2.2.2.2 bt347.1 bt347.2 bt361.2.2 bt365.1 bt365.2 t369 bt372.1 bt372.2 true bt340.1 bt340.2.1 bt340.2.2.1 bt340.2.2.2.1 bt361.1 bt361.2.1)) else (laws_FnWeights.j0 k bt340.2.2.2.2 bt347.1 bt347.2 bt361.2.2 bt365.1 bt365.2 t369 bt372.1 bt372.2 true bt340.1 bt340.2.1 bt340.2.2.1 bt340.2.2.2.1 bt361.1 bt361.2.1))))))))))))))) = some r := H
  have A2 := Aside0.mk A20
  clear A20
  by_cases c3 : t339 = true
  · subst c3
    have H1 : (some true) = some r := by rw [if_pos rfl] at H; exact H
    clear H
    have H := H1
    clear H1
    obtain rfl := Option.some.inj H
    go_enter Try.func8, Try.ntmps8
    go_wp2_with (first | ((with_reducible refine gate_callee (f := 38) rfl ?_); refine goesL_ (some 37) rfl rfl Try.func38 (by kernel_rfl) rfl #[.slice A0 l0.length c0] rfl (by (try simp only [List.map_toArray, List.map_cons, List.map_nil]); first | done | rfl | (simp only [List.length_drop, List.length_take]; rfl)) ?_; (with_reducible refine (laws_big.calls _ _ l0 true _ ?side1 ?side2 A2.out).mono ?_); (case side1 => repeat (first | exact HR0.out | (with_reducible refine Kd.C_alloc ?_ _) | (with_reducible refine Kd.C_drewN ?_ _) | (with_reducible refine Kd.C_drew ?_))); (case side2 => exact HC0.out); rintro e w' ⟨rfl, ⟨nd, rfl⟩⟩; refine ⟨_, rfl, ?_⟩))
    go_ret
    exact ⟨by first | rfl | (simp [errW_none, errW_some] <;> rfl) | (simp [*, errW_none, errW_some] <;> rfl), by repeat (first | (with_reducible first | exact HB.out | apply below_alloc | apply pw_below_drewN | apply below_drew1) | exact HB.out)⟩
  · replace c3 := Bool.eq_false_iff.mpr c3
    subst c3
    have H1 : ((spec_DrawStackWeight.f k l0).bind fun bt340 => ((impl_StackWeight.f k bt340.1 bt340.2.1 bt340.2.2.1 bt340.2.2.2.1 bt340.2.2.2.2).bind fun bt347 => ((spec_StackWeight.f k bt340.1 bt340.2.1 bt340.2.2.1 bt340.2.2.2.1 bt340.2.2.2.2).bind fun bt349 => ((spec_DrawSheetWeight.f k l0).bind fun bt351 => ((impl_SheetWeight.f bt351.1 bt351.2.1 bt351.2.2.1 bt351.2.2.2).bind fun bt357 => ((spec_SheetWeight.f bt351.1 bt351.2.1 bt351.2.2.1 bt351.2.2.2).bind fun bt359 => ((spec_DrawSheetsInHeight.f k l0).bind fun bt361 => ((impl_SheetsInHeight.f bt361.1 bt361.2.1 bt361.2.2).bind fun bt365 => ((spec_SheetsInHeight.f bt361.1 bt361.2.1 bt361.2.2).bind fun bt367 => ((spec_DrawPartsThickness.f k l0).bind fun t369 => ((impl_PartsThickness.f k t369).bind fun bt372 => ((spec_PartsThickness.f k t369).bind fun bt374 => (if bt347.2 = bt349.2 then (if bt347.1 = bt349.1 then (if bt357.2 = bt359.2 then (if bt357.1 = bt359.1 then (if bt365.2 = bt367.2 then (if bt365.1 = bt367.1 then (if bt372.2 = bt374.2 then (laws_FnWeights.j0 k bt340.2.2.2.2 bt347.1 bt347.2 bt361.2.2 bt365.1 bt365.2 t369 bt372.1 bt372.2 (bt372.1 != bt374.1) bt340.1 bt340.2.1 bt340.2.2.1 bt340.2.2.2.1 bt361.1 bt361.2.1) else (laws_FnWeights.j0 k bt340.2.2.2.2 bt347.1 bt347.2 bt361.2.2 bt365.1 bt365.2 t369 bt372.1 bt372.2 true bt340.1 bt340.2.1 bt340.2.2.1 bt340.2.2.2.1 bt361.1 bt361.2.1)) else (laws_FnWeights.j0 k bt340.2.2.2.2 bt347.1 bt347.2 bt361.2.2 bt365.1 bt365.2 t369 bt372.1 bt372.2 true bt340.1 bt340.2.1 bt340.2.2.1 bt340.2.2.2.1 bt361.1 bt361.2.1)) else (laws_FnWeights.j0 k bt340.2.2.2.2 bt347.1 bt347.2 bt361.2.2 bt365.1 bt365.2 t369 bt372.1 bt372.2 true bt340.1 bt340.2.1 bt340.2.2.1 bt340.2.2.2.1 bt361.1 bt361.2.1)) else (laws_FnWeights.j0 k bt340.2.2.2.2 bt347.1 bt347.2 bt361.2.2 bt365.1 bt365.2 t369 bt372.1 bt372.2 true bt340.1 bt340.2.1 bt340.2.2.1 bt340.2.2.2.1 bt361.1 bt361.2.1)) else (laws_FnWeights.j0 k bt340.2.2.2.2 bt347.1 bt347.2 bt361.2.2 bt365.1 bt365.2 t369 bt372.1 bt372.2 true bt340.1 bt340.2.1 bt340.2.2.1 bt340.2.2.2.1 bt361.1 bt361.2.1)) else (laws_FnWeights.j0 k bt340.2.2.2.2 bt347.1 bt347.2 bt361.2.2 bt365.1 bt365.2 t369 bt372.1 bt372.2 true bt340.1 bt340.2.1 bt340.2.2.1 bt340.2.2.2.1 bt361.1 bt361.2.1)) else (laws_FnWeights.j0 k bt340.2.2.2.2 bt347.1 bt347.2 bt361.2.2 bt365.1 bt365.2 t369 bt372.1 bt372.2 true bt340.1 bt340.2.1 bt340.2.2.1 bt340.2.2.2.1 bt361.1 bt361.2.1)))))))))))))) = some r := by rw [if_neg (show ¬ (false = true) by decide)] at H; exact H
    clear H
    have H := H1
    clear H1
    replace H := Option.bind_eq_some_iff.mp H
    obtain ⟨⟨t340, t341, t342, t343, t344⟩, A40, H⟩ := H
    replace H : ((impl_StackWeight.f k t340 t341 t342 t343 t344).bind fun bt347 => ((spec_StackWeight.f k t340 t341 t342 t343 t344).bind fun bt349 => ((spec_DrawSheetWeight.f k l0).bind fun bt351 => ((impl_SheetWeight.f bt351.1 bt351.2.1 bt351.2.2.1 bt351.2.2.2).bind fun bt357 => ((spec_SheetWeight.f bt351.1 bt351.2.1 bt351.2.2.1 bt351.2.2.2).bind fun bt359 => ((spec_DrawSheetsInHeight.f k l0).bind fun bt361 => ((impl_SheetsInHeight.f bt361.1 bt361.2.1 bt361.2.2).bind fun bt365 => ((spec_SheetsInHeight.f bt361.1 bt361.2.1 bt361.2.2).bind fun bt367 => ((spec_DrawPartsThickness.f k l0).bind fun t369 => ((impl_PartsThickness.f k t369).bind fun bt372 => ((spec_PartsThickness.f k t369).bind fun bt374 => (if bt347.2 = bt349.2 then (if bt347.1 = bt349.1 then (if bt357.2 = bt359.2 then (if bt357.1 = bt359.1 then (if bt365.2 = bt367.2 then (if bt365.1 = bt367.1 then (if bt372.2 = bt374.2 then (laws_FnWeights.j0 k t344 bt347.1 bt347.2 bt361.2.2 bt365.1 bt365.2 t369 bt372.1 bt372.2 (bt372.1 != bt374.1) t340 t341 t342 t343 bt361.1 bt361.2.1) else (laws_FnWeights.j0 k t344 bt347.1 bt347.2 bt361.2.2 bt365.1 bt365.2 t369 bt372.1 bt372.2 true t340 t341 t342 t343 bt361.1 bt361.2.1)) else (laws_FnWeights.j0 k t344 bt347.1 bt347.2 bt361.2.2 bt365.1 bt365.2 t369 bt372.1 bt372.2 true t340 t341 t342 t343 bt361.1 bt361.2.1)) else (laws_FnWeights.j0 k t344 bt347.1 bt347.2 bt361.2.2 bt365.1 bt365.2 t369 bt372.1 bt372.2 true t340 t341 t342 t343 bt361.1 bt361.2.1)) else (laws_FnWeights.j0 k t344 bt347.1 bt347.2 bt361.2.2 bt365.1 bt365.2 t369 bt372.1 bt372.2 true t340 t341 t342 t343 bt361.1 bt361.2.1)) else (laws_FnWeights.j0 k t344 bt347.1 bt347.2 bt361.2.2 bt365.1 bt365.2 t369 bt372.1 bt372.2 true t340 t341 t342 t343 bt361.1 bt361.2.1)) else (laws_FnWeights.j0 k t344 bt347.1 bt347.2 bt361.2.2 bt365.1 bt365.2 t369 bt372.1 bt372.2 true t340 t341 t342 t343 bt361.1 bt361.2.1)) else (laws_FnWeights.j0 k t344 bt347.1 bt347.2 bt361.2.2 bt365.1 bt365.2 t369 bt372.1 bt372.2 true t340 t341 t342 t343 bt361.1 bt361.2.1))))))))))))) = some r := H
    have A4 := Aside0.mk A40
    clear A40
    replace H := Option.bind_eq_some_iff.mp H
    obtain ⟨⟨t347, t348⟩, A50, H⟩ := H
    replace H : ((spec_StackWeight.f k t340 t341 t342 t343 t344).bind fun bt349 => ((spec_DrawSheetWeight.f k l0).bind fun bt351 => ((impl_SheetWeight.f bt351.1 bt351.2.1 bt351.2.2.1 bt351.2.2.2).bind fun bt357 => ((spec_SheetWeight.f bt351.1 bt351.2.1 bt351.2.2.1 bt351.2.2.2).bind fun bt359 => ((spec_DrawSheetsInHeight.f k l0).bind fun bt361 => ((impl_SheetsInHeight.f bt361.1 bt361.2.1 bt361.2.2).bind fun bt365 => ((spec_SheetsInHeight.f bt361.1 bt361.2.1 bt361.2.2).bind fun bt367 => ((spec_DrawPartsThickness.f k l0).bind fun t369 => ((impl_PartsThickness.f k t369).bind fun bt372 => ((spec_PartsThickness.f k t369).bind fun bt374 => (if t348 = bt349.2 then (if t347 = bt349.1 then (if bt357.2 = bt359.2 then (if bt357.1 = bt359.1 then (if bt365.2 = bt367.2 then (if bt365.1 = bt367.1 then (if bt372.2 = bt374.2 then (laws_FnWeights.j0 k t344 t347 t348 bt361.2.2 bt365.1 bt365.2 t369 bt372.1 bt372.2 (bt372.1 != bt374.1) t340 t341 t342 t343 bt361.1 bt361.2.1) else (laws_FnWeights.j0 k t344 t347 t348 bt361.2.2 bt365.1 bt365.2 t369 bt372.1 bt372.2 true t340 t341 t342 t343 bt361.1 bt361.2.1)) else (laws_FnWeights.j0 k t344 t347 t348 bt361.2.2 bt365.1 bt365.2 t369 bt372.1 bt372.2 true t340 t341 t342 t343 bt361.1 bt361.2.1)) else (laws_FnWeights.j0 k t344 t347 t348 bt361.2.2 bt365.1 bt365.2 t369 bt372.1 bt372.2 true t340 t341 t342 t343 bt361.1 bt361.2.1)) else (laws_FnWeights.j0 k t344 t347 t348 bt361.2.2 bt365.1 bt365.2 t369 bt372.1 bt372.2 true t340 t341 t342 t343 bt361.1 bt361.2.1)) else (laws_FnWeights.j0 k t344 t347 t348 bt361.2.2 bt365.1 bt365.2 t369 bt372.1 bt372.2 true t340 t341 t342 t343 bt361.1 bt361.2.1)) else (laws_FnWeights.j0 k t344 t347 t348 bt361.2.2 bt365.1 bt365.2 t369 bt372.1 bt372.2 true t340 t341 t342 t343 bt361.1 bt361.2.1)) else (laws_FnWeights.j0 k t344 t347 t348 bt361.2.2 bt365.1 bt365.2 t369 bt372.1 bt372.2 true t340 t341 t342 t343 bt361.1 bt361.2.1)))))))))))) = some r := H
    have A5 := Aside0.mk A50
    clear A50
    replace H := Option.bind_eq_some_iff.mp H
    obtain ⟨⟨t349, t350⟩, A60, H⟩ := H
    replace H : ((spec_DrawSheetWeight.f k l0).bind fun bt351 => ((impl_SheetWeight.f bt351.1 bt351.2.1 bt351.2.2.1 bt351.2.2.2).bind fun bt357 => ((spec_SheetWeight.f bt351.1 bt351.2.1 bt351.2.2.1 bt351.2.2.2).bind fun bt359 => ((spec_DrawSheetsInHeight.f k l0).bind fun bt361 => ((impl_SheetsInHeight.f bt361.1 bt361.2.1 bt361.2.2).bind fun bt365 => ((spec_SheetsInHeight.f bt361.1 bt361.2.1 bt361.2.2).bind fun bt367 => ((spec_DrawPartsThickness.f k l0).bind fun t369 => ((impl_PartsThickness.f k t369).bind fun bt372 => ((spec_PartsThickness.f k t369).bind fun bt374 => (if t348 = t350 then (if t347 = t349 then (if bt357.2 = bt359.2 then (if bt357.1 = bt359.1 then (if bt365.2 = bt367.2 then (if bt365.1 = bt367.1 then (if bt372.2 = bt374.2 then (laws_FnWeights.j0 k t344 t347 t348 bt361.2.2 bt365.1 bt365.2 t369 bt372.1 bt372.2 (bt372.1 != bt374.1) t340 t341 t342 t343 bt361.1 bt361.2.1) else (laws_FnWeights.j0 k t344 t347 t348 bt361.2.2 bt365.1 bt365.2 t369 bt372.1 bt372.2 true t340 t341 t342 t343 bt361.1 bt361.2.1)) else (laws_FnWeights.j0 k t344 t347 t348 bt361.2.2 bt365.1 bt365.2 t369 bt372.1 bt372.2 true t340 t341 t342 t343 bt361.1 bt361.2.1)) else (laws_FnWeights.j0 k t344 t347 t348 bt361.2.2 bt365.1 bt365.2 t369 bt372.1 bt372.2 true t340 t341 t342 t343 bt361.1 bt361.2.1)) else (laws_FnWeights.j0 k t344 t347 t348 bt361.2.2 bt365.1 bt365.2 t369 bt372.1 bt372.2 true t340 t341 t342 t343 bt361.1 bt361.2.1)) else (laws_FnWeights.j0 k t344 t347 t348 bt361.2.2 bt365.1 bt365.2 t369 bt372.1 bt372.2 true t340 t341 t342 t343 bt361.1 bt361.2.1)) else (laws_FnWeights.j0 k t344 t347 t348 bt361.2.2 bt365.1 bt365.2 t369 bt372.1 bt372.2 true t340 t341 t342 t343 bt361.1 bt361.2.1)) else (laws_FnWeights.j0 k t344 t347 t348 bt361.2.2 bt365.1 bt365.2 t369 bt372.1 bt372.2 true t340 t341 t342 t343 bt361.1 bt361.2.1))))))))))) = some r := H
    have A6 := Aside0.mk A60
    clear A60
    replace H := Option.bind_eq_some_iff.mp H
    obtain ⟨⟨t351, t352, t353, t354⟩, A70, H⟩ := H
    replace H : ((impl_SheetWeight.f t351 t352 t353 t354).bind fun bt357 => ((spec_SheetWeight.f t351 t352 t353 t354).bind fun bt359 => ((spec_DrawSheetsInHeight.f k l0).bind fun bt361 => ((impl_SheetsInHeight.f bt361.1 bt361.2.1 bt361.2.2).bind fun bt365 => ((spec_SheetsInHeight.f bt361.1 bt361.2.1 bt361.2.2).bind fun bt367 => ((spec_DrawPartsThickness.f k l0).bind fun t369 => ((impl_PartsThickness.f k t369).bind fun bt372 => ((spec_PartsThickness.f k t369).bind fun bt374 => (if t348 = t350 then (if t347 = t349 then (if bt357.2 = bt359.2 then (if bt357.1 = bt359.1 then (if bt365.2 = bt367.2 then (if bt365.1 = bt367.1 then (if bt372.2 = bt374.2 then (laws_FnWeights.j0 k t344 t347 t348 bt361.2.2 bt365.1 bt365.2 t369 bt372.1 bt372.2 (bt372.1 != bt374.1) t340 t341 t342 t343 bt361.1 bt361.2.1) else (laws_FnWeights.j0 k t344 t347 t348 bt361.2.2 bt365.1 bt365.2 t369 bt372.1 bt372.2 true t340 t341 t342 t343 bt361.1 bt361.2.1)) else (laws_FnWeights.j0 k t344 t347 t348 bt361.2.2 bt365.1 bt365.2 t369 bt372.1 bt372.2 true t340 t341 t342 t343 bt361.1 bt361.2.1)) else (laws_FnWeights.j0 k t344 t347 t348 bt361.2.2 bt365.1 bt365.2 t369 bt372.1 bt372.2 true t340 t341 t342 t343 bt361.1 bt361.2.1)) else (laws_FnWeights.j0 k t344 t347 t348 bt361.2.2 bt365.1 bt365.2 t369 bt372.1 bt372.2 true t340 t341 t342 t343 bt361.1 bt361.2.1)) else (laws_FnWeights.j0 k t344 t347 t348 bt361.2.2 bt365.1 bt365.2 t369 bt372.1 bt372.2 true t340 t341 t342 t343 bt361.1 bt361.2.1)) else (laws_FnWeights.j0 k t344 t347 t348 bt361.2.2 bt365.1 bt365.2 t369 bt372.1 bt372.2 true t340 t341 t342 t343 bt361.1 bt361.2.1)) else (laws_FnWeights.j0 k t344 t347 t348 bt361.2.2 bt365.1 bt365.2 t369 bt372.1 bt372.2 true t340 t341 t342 t343 bt361.1 bt361.2.1)))))))))) = some r := H
    have A7 := Aside0.mk A70
    clear A70
    replace H := Option.bind_eq_some_iff.mp H
    obtain ⟨⟨t357, t358⟩, A80, H⟩ := H
    replace H : ((spec_SheetWeight.f t351 t352 t353 t354).bind fun bt359 => ((spec_DrawSheetsInHeight.f k l0).bind fun bt361 => ((impl_SheetsInHeight.f bt361.1 bt361.2.1 bt361.2.2).bind fun bt365 => ((spec_SheetsInHeight.f bt361.1 bt361.2.1 bt361.2.2).bind fun bt367 => ((spec_DrawPartsThickness.f k l0).bind fun t369 => ((impl_PartsThickness.f k t369).bind fun bt372 => ((spec_PartsThickness.f k t369).bind fun bt374 => (if t348 = t350 then (if t347 = t349 then (if t358 = bt359.2 then (if t357 = bt359.1 then (if bt365.2 = bt367.2 then (if bt365.1 = bt367.1 then (if bt372.2 = bt374.2 then (laws_FnWeights.j0 k t344 t347 t348 bt361.2.2 bt365.1 bt365.2 t369 bt372.1 bt372.2 (bt372.1 != bt374.1) t340 t341 t342 t343 bt361.1 bt361.2.1) else (laws_FnWeights.j0 k t344 t347 t348 bt361.2.2 bt365.1 bt365.2 t369 bt372.1 bt372.2 true t340 t341 t342 t343 bt361.1 bt361.2.1)) else (laws_FnWeights.j0 k t344 t347 t348 bt361.2.2 bt365.1 bt365.2 t369 bt372.1 bt372.2 true t340 t341 t342 t343 bt361.1 bt361.2.1)) else (laws_FnWeights.j0 k t344 t347 t348 bt361.2.2 bt365.1 bt365.2 t369 bt372.1 bt372.2 true t340 t341 t342 t343 bt361.1 bt361.2.1)) else (laws_FnWeights.j0 k t344 t347 t348 bt361.2.2 bt365.1 bt365.2 t369 bt372.1 bt372.2 true t340 t341 t342 t343 bt361.1 bt361.2.1)) else (laws_FnWeights.j0 k t344 t347 t348 bt361.2.2 bt365.1 bt365.2 t369 bt372.1 bt372.2 true t340 t341 t342 t343 bt361.1 bt361.2.1)) else (laws_FnWeights.j0 k t344 t347 t348 bt361.2.2 bt365.1 bt365.2 t369 bt372.1 bt372.2 true t340 t341 t342 t343 bt361.1 bt361.2.1)) else (laws_FnWeights.j0 k t344 t347 t348 bt361.2.2 bt365.1 bt365.2 t369 bt372.1 bt372.2 true t340 t341 t342 t343 bt361.1 bt361.2.1))))))))) = some r := H
    have A8 := Aside0.mk A80
    clear A80
    replace H := Option.bind_eq_some_iff.mp H
    obtain ⟨⟨t359, t360⟩, A90, H⟩ := H
    replace H : ((spec_DrawSheetsInHeight.f k l0).bind fun bt361 => ((impl_SheetsInHeight.f bt361.1 bt361.2.1 bt361.2.2).bind fun bt365 => ((spec_SheetsInHeight.f bt361.1 bt361.2.1 bt361.2.2).bind fun bt367 => ((spec_DrawPartsThickness.f k l0).bind fun t369 => ((impl_PartsThickness.f k t369).bind fun bt372 => ((spec_PartsThickness.f k t369).bind fun bt374 => (if t348 = t350 then (if t347 = t349 then (if t358 = t360 then (if t357 = t359 then (if bt365.2 = bt367.2 then (if bt365.1 = bt367.1 then (if bt372.2 = bt374.2 then (laws_FnWeights.j0 k t344 t347 t348 bt361.2.2 bt365.1 bt365.2 t369 bt372.1 bt372.2 (bt372.1 != bt374.1) t340 t341 t342 t343 bt361.1 bt361.2.1) else (laws_FnWeights.j0 k t344 t347 t348 bt361.2.2 bt365.1 bt365.2 t369 bt372.1 bt372.2 true t340 t341 t342 t343 bt361.1 bt361.2.1)) else (laws_FnWeights.j0 k t344 t347 t348 bt361.2.2 bt365.1 bt365.2 t369 bt372.1 bt372.2 true t340 t341 t342 t343 bt361.1 bt361.2.1)) else (laws_FnWeights.j0 k t344 t347 t348 bt361.2.2 bt365.1 bt365.2 t369 bt372.1 bt372.2 true t340 t341 t342 t343 bt361.1 bt361.2.1)) else (laws_FnWeights.j0 k t344 t347 t348 bt361.2.2 bt365.1 bt365.2 t369 bt372.1 bt372.2 true t340 t341 t342 t343 bt361.1 bt361.2.1)) else (laws_FnWeights.j0 k t344 t347 t348 bt361.2.2 bt365.1 bt365.2 t369 bt372.1 bt372.2 true t340 t341 t342 t343 bt361.1 bt361.2.1)) else (laws_FnWeights.j0 k t344 t347 t348 bt361.2.2 bt365.1 bt365.2 t369 bt372.1 bt372.2 true t340 t341 t342 t343 bt361.1 bt361.2.1)) else (laws_FnWeights.j0 k t344 t347 t348 bt361.2.2 bt365.1 bt365.2 t369 bt372.1 bt372.2 true t340 t341 t342 t343 bt361.1 bt361.2.1)))))))) = some r := H
    have A9 := Aside0.mk A90
    clear A90
    replace H := Option.bind_eq_some_iff.mp H
    obtain ⟨⟨t361, t362, t363⟩, A100, H⟩ := H
    replace H : ((impl_SheetsInHeight.f t361 t362 t363).bind fun bt365 => ((spec_SheetsInHeight.f t361 t362 t363).bind fun bt367 => ((spec_DrawPartsThickness.f k l0).bind fun t369 => ((impl_PartsThickness.f k t369).bind fun bt372 => ((spec_PartsThickness.f k t369).bind fun bt374 => (if t348 = t350 then (if t347 = t349 then (if t358 = t360 then (if t357 = t359 then (if bt365.2 = bt367.2 then (if bt365.1 = bt367.1 then (if bt372.2 = bt374.2 then (laws_FnWeights.j0 k t344 t347 t348 t363 bt365.1 bt365.2 t369 bt372.1 bt372.2 (bt372.1 != bt374.1) t340 t341 t342 t343 t361 t362) else (laws_FnWeights.j0 k t344 t347 t348 t363 bt365.1 bt365.2 t369 bt372.1 bt372.2 true t340 t341 t342 t343 t361 t362)) else (laws_FnWeights.j0 k t344 t347 t348 t363 bt365.1 bt365.2 t369 bt372.1 bt372.2 true t340 t341 t342 t343 t361 t362)) else (laws_FnWeights.j0 k t344 t347 t348 t363 bt365.1 bt365.2 t369 bt372.1 bt372.2 true t340 t341 t342 t343 t361 t362)) else (laws_FnWeights.j0 k t344 t347 t348 t363 bt365.1 bt365.2 t369 bt372.1 bt372.2 true t340 t341 t342 t343 t361 t362)) else (laws_FnWeights.j0 k t344 t347 t348 t363 bt365.1 bt365.2 t369 bt372.1 bt372.2 true t340 t341 t342 t343 t361 t362)) else (laws_FnWeights.j0 k t344 t347 t348 t363 bt365.1 bt365.2 t369 bt372.1 bt372.2 true t340 t341 t342 t343 t361 t362)) else (laws_FnWeights.j0 k t344 t347 t348 t363 bt365.1 bt365.2 t369 bt372.1 bt372.2 true t340 t341 t342 t343 t361 t362))))))) = some r := H
    have A10 := Aside0.mk A100
    clear A100
    replace H := Option.bind_eq_some_iff.mp H
    obtain ⟨⟨t365, t366⟩, A110, H⟩ := H
    replace H : ((spec_SheetsInHeight.f t361 t362 t363).bind fun bt367 => ((spec_DrawPartsThickness.f k l0).bind fun t369 => ((impl_PartsThickness.f k t369).bind fun bt372 => ((spec_PartsThickness.f k t369).bind fun bt374 => (if t348 = t350 then (if t347 = t349 then (if t358 = t360 then (if t357 = t359 then (if t366 = bt367.2 then (if t365 = bt367.1 then (if bt372.2 = bt374.2 then (laws_FnWeights.j0 k t344 t347 t348 t363 t365 t366 t369 bt372.1 bt372.2 (bt372.1 != bt374.1) t340 t341 t342 t343 t361 t362) else (laws_FnWeights.j0 k t344 t347 t348 t363 t365 t366 t369 bt372.1 bt372.2 true t340 t341 t342 t343 t361 t362)) else (laws_FnWeights.j0 k t344 t347 t348 t363 t365 t366 t369 bt372.1 bt372.2 true t340 t341 t342 t343 t361 t362)) else (laws_FnWeights.j0 k t344 t347 t348 t363 t365 t366 t369 bt372.1 bt372.2 true t340 t341 t342 t343 t361 t362)) else (laws_FnWeights.j0 k t344 t347 t348 t363 t365 t366 t369 bt372.1 bt372.2 true t340 t341 t342 t343 t361 t362)) else (laws_FnWeights.j0 k t344 t347 t348 t363 t365 t366 t369 bt372.1 bt372.2 true t340 t341 t342 t343 t361 t362)) else (laws_FnWeights.j0 k t344 t347 t348 t363 t365 t366 t369 bt372.1 bt372.2 true t340 t341 t342 t343 t361 t362)) else (laws_FnWeights.j0 k t344 t347 t348 t363 t365 t366 t369 bt372.1 bt372.2 true t340 t341 t342 t343 t361 t362)))))) = some r := H
    have A11 := Aside0.mk A110
    clear A110
    replace H := Option.bind_eq_some_iff.mp H
    obtain ⟨⟨t367, t368⟩, A120, H⟩ := H
    replace H : ((spec_DrawPartsThickness.f k l0).bind fun t369 => ((impl_PartsThickness.f k t369).bind fun bt372 => ((spec_PartsThickness.f k t369).bind fun bt374 => (if t348 = t350 then (if t347 = t349 then (if t358 = t360 then (if t357 = t359 then (if t366 = t368 then (if t365 = t367 then (if bt372.2 = bt374.2 then (laws_FnWeights.j0 k t344 t347 t348 t363 t365 t366 t369 bt372.1 bt372.2 (bt372.1 != bt374.1) t340 t341 t342 t343 t361 t362) else (laws_FnWeights.j0 k t344 t347 t348 t363 t365 t366 t369 bt372.1 bt372.2 true t340 t341 t342 t343 t361 t362)) else (laws_FnWeights.j0 k t344 t347 t348 t363 t365 t366 t369 bt372.1 bt372.2 true t340 t341 t342 t343 t361 t362)) else (laws_FnWeights.j0 k t344 t347 t348 t363 t365 t366 t369 bt372.1 bt372.2 true t340 t341 t342 t343 t361 t362)) else (laws_FnWeights.j0 k t344 t347 t348 t363 t365 t366 t369 bt372.1 bt372.2 true t340 t341 t342 t343 t361 t362)) else (laws_FnWeights.j0 k t344 t347 t348 t363 t365 t366 t369 bt372.1 bt372.2 true t340 t341 t342 t343 t361 t362)) else (laws_FnWeights.j0 k t344 t347 t348 t363 t365 t366 t369 bt372.1 bt372.2 true t340 t341 t342 t343 t361 t362)) else (laws_FnWeights.j0 k t344 t347 t348 t363 t365 t366 t369 bt372.1 bt372.2 true t340 t341 t342 t343 t361 t362))))) = some r := H
    have A12 := Aside0.mk A120
    clear A120
    replace H := Option.bind_eq_some_iff.mp H
    obtain ⟨t369, A130, H⟩ := H
    replace H : ((impl_PartsThickness.f k t369).bind fun bt372 => ((spec_PartsThickness.f k t369).bind fun bt374 => (if t348 = t350 then (if t347 = t349 then (if t358 = t360 then (if t357 = t359 then (if t366 = t368 then (if t365 = t367 then (if bt372.2 = bt374.2 then (laws_FnWeights.j0 k t344 t347 t348 t363 t365 t366 t369 bt372.1 bt372.2 (bt372.1 != bt374.1) t340 t341 t342 t343 t361 t362) else (laws_FnWeights.j0 k t344 t347 t348 t363 t365 t366 t369 bt372.1 bt372.2 true t340 t341 t342 t343 t361 t362)) else (laws_FnWeights.j0 k t344 t347 t348 t363 t365 t366 t369 bt372.1 bt372.2 true t340 t341 t342 t343 t361 t362)) else (laws_FnWeights.j0 k t344 t347 t348 t363 t365 t366 t369 bt372.1 bt372.2 true t340 t341 t342 t343 t361 t362)) else (laws_FnWeights.j0 k t344 t347 t348 t363 t365 t366 t369 bt372.1 bt372.2 true t340 t341 t342 t343 t361 t362)) else (laws_FnWeights.j0 k t344 t347 t348 t363 t365 t366 t369 bt372.1 bt372.2 true t340 t341 t342 t343 t361 t362)) else (laws_FnWeights.j0 k t344 t347 t348 t363 t365 t366 t369 bt372.1 bt372.2 true t340 t341 t342 t343 t361 t362)) else (laws_FnWeights.j0 k t344 t347 t348 t363 t365 t366 t369 bt372.1 bt372.2 true t340 t341 t342 t343 t361 t362)))) = some r := H
    have A13 := Aside0.mk A130
    clear A130
    replace H := Option.bind_eq_some_iff.mp H
    obtain ⟨⟨t372, t373⟩, A140, H⟩ := H
    replace H : ((spec_PartsThickness.f k t369).bind fun bt374 => (if t348 = t350 then (if t347 = t349 then (if t358 = t360 then (if t357 = t359 then (if t366 = t368 then (if t365 = t367 then (if t373 = bt374.2 then (laws_FnWeights.j0 k t344 t347 t348 t363 t365 t366 t369 t372 t373 (t372 != bt374.1) t340 t341 t342 t343 t361 t362) else (laws_FnWeights.j0 k t344 t347 t348 t363 t365 t366 t369 t372 t373 true t340 t341 t342 t343 t361 t362)) else (laws_FnWeights.j0 k t344 t347 t348 t363 t365 t366 t369 t372 t373 true t340 t341 t342 t343 t361 t362)) else (laws_FnWeights.j0 k t344 t347 t348 t363 t365 t366 t369 t372 t373 true t340 t341 t342 t343 t361 t362)) else (laws_FnWeights.j0 k t344 t347 t348 t363 t365 t366 t369 t372 t373 true t340 t341 t342 t343 t361 t362)) else (laws_FnWeights.j0 k t344 t347 t348 t363 t365 t366 t369 t372 t373 true t340 t341 t342 t343 t361 t362)) else (laws_FnWeights.j0 k t344 t347 t348 t363 t365 t366 t369 t372 t373 true t340 t341 t342 t343 t361 t362)) else (laws_FnWeights.j0 k t344 t347 t348 t363 t365 t366 t369 t372 t373 true t340 t341 t342 t343 t361 t362))) = some r := H
    have A14 := Aside0.mk A140
    clear A140
    replace H := Option.bind_eq_some_iff.mp H
    obtain ⟨⟨t374, t375⟩, A150, H⟩ := H
    replace H : (if t348 = t350 then (if t347 = t349 then (if t358 = t360 then (if t357 = t359 then (if t366 = t368 then (if t365 = t367 then (if t373 = t375 then (laws_FnWeights.j0 k t344 t347 t348 t363 t365 t366 t369 t372 t373 (t372 != t374) t340 t341 t342 t343 t361 t362) else (laws_FnWeights.j0 k t344 t347 t348 t363 t365 t366 t369 t372 t373 true t340 t341 t342 t343 t361 t362)) else (laws_FnWeights.j0 k t344 t347 t348 t363 t365 t366 t369 t372 t373 true t340 t341 t342 t343 t361 t362)) else (laws_FnWeights.j0 k t344 t347 t348 t363 t365 t366 t369 t372 t373 true t340 t341 t342 t343 t361 t362)) else (laws_FnWeights.j0 k t344 t347 t348 t363 t365 t366 t369 t372 t373 true t340 t341 t342 t343 t361 t362)) else (laws_FnWeights.j0 k t344 t347 t348 t363 t365 t366 t369 t372 t373 true t340 t341 t342 t343 t361 t362)) else (laws_FnWeights.j0 k t344 t347 t348 t363 t365 t366 t369 t372 t373 true t340 t341 t342 t343 t361 t362)) else (laws_FnWeights.j0 k t344 t347 t348 t363 t365 t366 t369 t372 t373 true t340 t341 t342 t343 t361 t362)) = some r := H
    have A15 := Aside0.mk A150
    clear A150
    have HC16 := Aside0.mk H
    clear H
    go_enter Try.func8, Try.ntmps8
    go_upto_region 15 with (first | ((with_reducible refine gate_callee (f := 38) rfl ?_); refine goesL_ (some 37) rfl rfl Try.func38 (by kernel_rfl) rfl #[.slice A0 l0.length c0] rfl (by (try simp only [List.map_toArray, List.map_cons, List.map_nil]); first | done | rfl | (simp only [List.length_drop, List.length_take]; rfl)) ?_; (with_reducible refine (laws_big.calls _ _ l0 false _ ?side1 ?side2 A2.out).mono ?_); (case side1 => repeat (first | exact HR0.out | (with_reducible refine Kd.C_alloc ?_ _) | (with_reducible refine Kd.C_drewN ?_ _) | (with_reducible refine Kd.C_drew ?_))); (case side2 => exact HC0.out); rintro e w' ⟨rfl, ⟨nd, rfl⟩⟩; refine ⟨_, rfl, ?_⟩) | ((with_reducible refine gate_callee (f := 39) rfl ?_); refine goesL_ (some 40) rfl rfl Try.func39 (by kernel_rfl) rfl #[.slice A0 l0.length c0] rfl (by (try simp only [List.map_toArray, List.map_cons, List.map_nil]); first | done | rfl | (simp only [List.length_drop, List.length_take]; rfl)) ?_; (with_reducible refine (spec_DrawStackWeight.calls k _ _ l0 t340 t341 t342 t343 t344 _ ?side1 ?side2 A4.out).mono ?_); (case side1 => repeat (first | exact HR0.out | (with_reducible refine Kd.C_alloc ?_ _) | (with_reducible refine Kd.C_drewN ?_ _) | (with_reducible refine Kd.C_drew ?_))); (case side2 => exact HC0.out); rintro e w17 ⟨rfl, hb⟩; refine ⟨_, rfl, ?_⟩; have n0_ := Aside0.mk (below_step (by repeat (first | (with_reducible first | exact HB.out | apply below_alloc | apply pw_below_drewN | apply below_drew1) | exact HB.out)) hb); clear HB; have HB := n0_; clear n0_; (try clear hb); (try clear hb2); (try clear hk); (try clear hi)) | ((with_reducible refine gate_dst (N := 3) rfl ?_); refine box_event ?hg (N := 3) ?hd (cs := #[.int .i64 0, .int .i64 0]) (t := 54) ?hr ?_; (case hd => rfl); (case hg => rfl); (case hr => first | (go_simp; done) | (go_simp; rfl)); intro gb345 hg w18 hbox hb; have n0_ := Aside0.mk (below_step (by repeat (first | (with_reducible first | exact HB.out | apply below_alloc | apply pw_below_drewN | apply below_drew1) | exact HB.out)) hb); have n1_ := Aside0.mk (hbox); have n2_ := Aside0.mk ((by rw [hg]; exact (below_size (by repeat (first | (with_reducible first | exact HB.out | apply below_alloc | apply pw_below_drewN | apply below_drew1) | exact HB.out))) : w.heap.size ≤ gb345)); have n3_ := Aside0.mk ((by rw [hg]; exact (below_size (by repeat (first | (with_reducible first | exact HB.out | apply below_alloc | apply pw_below_drewN | apply below_drew1) | exact HB.out))) : w.heap.size ≤ gb345)); clear HB; have HB := n0_; have BK345 := n1_; have GW345 := n2_; have GE345 := n3_; clear n0_ n1_ n2_ n3_; clear hb hbox hg) | ((with_reducible refine gate_dst (N := 4) rfl ?_); refine box_event ?hg (N := 4) ?hd (cs := #[.int .i64 0, .int .i64 0]) (t := 56) ?hr ?_; (case hd => rfl); (case hg => rfl); (case hr => first | (go_simp; done) | (go_simp; rfl)); intro gb346 hg w19 hbox hb; have n0_ := Aside0.mk (blk_below (g := gb345) (o := .cells #[.int .i64 0, .int .i64 0] 54 (0, 0)) (by (with_reducible repeat (first | refine blk_drewN ?_ _ | refine blk_drew ?_ | refine blk_alloc ?_ _)); exact BK345.out) hb); have n1_ := Aside0.mk (below_step (by repeat (first | (with_reducible first | exact HB.out | apply below_alloc | apply pw_below_drewN | apply below_drew1 | refine below_set ?_ GE345.out) | exact HB.out)) hb); have n2_ := Aside0.mk (hbox); have n3_ := Aside0.mk ((by rw [hg]; exact (below_size (by repeat (first | (with_reducible first | exact HB.out | apply below_alloc | apply pw_below_drewN | apply below_drew1 | refine below_set ?_ GE345.out) | exact HB.out))) : w.heap.size ≤ gb346)); have n4_ := Aside0.mk ((by rw [hg]; exact (below_size (by repeat (first | (with_reducible first | exact HB.out | apply below_alloc | apply pw_below_drewN | apply below_drew1 | refine below_set ?_ GE345.out) | exact HB.out))) : w.heap.size ≤ gb346)); have n5_ := Aside0.mk ((by rw [hg]; exact Nat.ne_of_lt (blk_lt (g := gb345) (o := .cells #[.int .i64 0, .int .i64 0] 54 (0, 0)) (by (with_reducible repeat (first | refine blk_drewN ?_ _ | refine blk_drew ?_ | refine blk_alloc ?_ _)); exact BK345.out)) : gb345 ≠ gb346)); have n6_ := Aside0.mk ((by rw [hg]; exact Nat.ne_of_gt (blk_lt (g := gb345) (o := .cells #[.int .i64 0, .int .i64 0] 54 (0, 0)) (by (with_reducible repeat (first | refine blk_drewN ?_ _ | refine blk_drew ?_ | refine blk_alloc ?_ _)); exact BK345.out)) : gb346 ≠ gb345)); clear BK345; clear HB; have BK345 := n0_; have HB := n1_; have BK346 := n2_; have GW346 := n3_; have GE346 := n4_; have NB345_346 := n5_; have NB346_345 := n6_; clear n0_ n1_ n2_ n3_ n4_ n5_ n6_; clear hb hbox hg; have hnb20 := NB345_346.out; have hnc20 := NB346_345.out; have hcz21_0 : w19.cell? ⟨gb345, 0, none⟩ = some (.int .i64 0) := (blk_cell BK345.out 0).trans rfl; have hcz21_1 : w19.cell? ⟨gb345, 1, none⟩ = some (.int .i64 0) := (blk_cell BK345.out 1).trans rfl; have hfz21_0 := blk_frozen BK345.out 0; have hfz21_1 := blk_frozen BK345.out 1; have hcz22_0 : w19.cell? ⟨gb346, 0, none⟩ = some (.int .i64 0) := (blk_cell BK346.out 0).trans rfl; have hcz22_1 : w19.cell? ⟨gb346, 1, none⟩ = some (.int .i64 0) := (blk_cell BK346.out 1).trans rfl; have hfz22_0 := blk_frozen BK346.out 0; have hfz22_1 := blk_frozen BK346.out 1) | ((with_reducible refine gate_callee (f := 40) rfl ?_); refine goesL_ (some 48) rfl rfl Try.func40 (by kernel_rfl) rfl #[.agg #[.int .i64 t340, .int .i64 t341], .agg #[.int .i64 t342, .int .i64 t343], .int .i64 t344] rfl (by (try simp only [List.map_toArray, List.map_cons, List.map_nil]); first | done | rfl | (simp only [List.length_drop, List.length_take]; rfl)) ?_; (with_reducible refine (impl_StackWeight.calls k t340 t341 t342 t343 t344 t347 t348 _ A5.out).mono ?_); rintro e w23 ⟨rfl, hb⟩; refine ⟨_, rfl, ?_⟩; have n0_ := Aside0.mk (blk_below (g := gb345) (o := .cells #[.int .i64 t340, .int .i64 t341] 54 (0, 0)) (by (with_reducible repeat (first | refine blk_drewN ?_ _ | refine blk_drew ?_ | refine blk_alloc ?_ _)); refine blk_far ?_ NB345_346.out _; (with_reducible repeat (first | refine blk_drewN ?_ _ | refine blk_drew ?_ | refine blk_alloc ?_ _)); refine blk_far ?_ NB345_346.out _; (with_reducible repeat (first | refine blk_drewN ?_ _ | refine blk_drew ?_ | refine blk_alloc ?_ _)); refine blk_put (cs := #[.int .i64 t340, .int .i64 0]) ?_ 1 _ rfl; (with_reducible repeat (first | refine blk_drewN ?_ _ | refine blk_drew ?_ | refine blk_alloc ?_ _)); refine blk_put (cs := #[.int .i64 0, .int .i64 0]) ?_ 0 _ rfl; (with_reducible repeat (first | refine blk_drewN ?_ _ | refine blk_drew ?_ | refine blk_alloc ?_ _)); exact BK345.out) hb); have n1_ := Aside0.mk (blk_below (g := gb346) (o := .cells #[.int .i64 t342, .int .i64 t343] 56 (0, 0)) (by (with_reducible repeat (first | refine blk_drewN ?_ _ | refine blk_drew ?_ | refine blk_alloc ?_ _)); refine blk_put (cs := #[.int .i64 t342, .int .i64 0]) ?_ 1 _ rfl; (with_reducible repeat (first | refine blk_drewN ?_ _ | refine blk_drew ?_ | refine blk_alloc ?_ _)); refine blk_put (cs := #[.int .i64 0, .int .i64 0]) ?_ 0 _ rfl; (with_reducible repeat (first | refine blk_drewN ?_ _ | refine blk_drew ?_ | refine blk_alloc ?_ _)); refine blk_far ?_ NB346_345.out _; (with_reducible repeat (first | refine blk_drewN ?_ _ | refine blk_drew ?_ | refine blk_alloc ?_ _)); refine blk_far ?_ NB346_345.out _; (with_reducible repeat (first | refine blk_drewN ?_ _ | refine blk_drew ?_ | refine blk_alloc ?_ _)); exact BK346.out) hb); have n2_ := Aside0.mk (below_step (by repeat (first | (with_reducible first | exact HB.out | apply below_alloc | apply pw_below_drewN | apply below_drew1 | refine below_set ?_ GE345.out | refine below_set ?_ GE346.out) | exact HB.out)) hb); clear BK345; clear BK346; clear HB; have BK345 := n0_; have BK346 := n1_; have HB := n2_; clear n0_ n1_ n2_; (try clear hb); (try clear hb2); (try clear hk); (try clear hi); have hcz24_0 : w23.cell? ⟨gb345, 0, none⟩ = some (.int .i64 t340) := (blk_cell BK345.out 0).trans rfl; have hcz24_1 : w23.cell? ⟨gb345, 1, none⟩ = some (.int .i64 t341) := (blk_cell BK345.out 1).trans rfl; have hfz24_0 := blk_frozen BK345.out 0; have hfz24_1 := blk_frozen BK345.out 1; have hcz25_0 : w23.cell? ⟨gb346, 0, none⟩ = some (.int .i64 t342) := (blk_cell BK346.out 0).trans rfl; have hcz25_1 : w23.cell? ⟨gb346, 1, none⟩ = some (.int .i64 t343) := (blk_cell BK346.out 1).trans rfl; have hfz25_0 := blk_frozen BK346.out 0; have hfz25_1 := blk_frozen BK346.out 1) | ((with_reducible refine gate_callee (f := 41) rfl ?_); refine goesL_ (some 55) rfl rfl Try.func41 (by kernel_rfl) rfl #[.agg #[.int .i64 t340, .int .i64 t341], .agg #[.int .i64 t342, .int .i64 t343], .int .i64 t344] rfl (by (try simp only [List.map_toArray, List.map_cons, List.map_nil]); first | done | rfl | (simp only [List.length_drop, List.length_take]; rfl)) ?_; (with_reducible refine (spec_StackWeight.calls k t340 t341 t342 t343 t344 t349 t350 _ A6.out).mono ?_); rintro e w26 ⟨rfl, hb⟩; refine ⟨_, rfl, ?_⟩; have n0_ := Aside0.mk (blk_below (g := gb345) (o := .cells #[.int .i64 t340, .int .i64 t341] 54 (0, 0)) (by (with_reducible repeat (first | refine blk_drewN ?_ _ | refine blk_drew ?_ | refine blk_alloc ?_ _)); exact BK345.out) hb); have n1_ := Aside0.mk (blk_below (g := gb346) (o := .cells #[.int .i64 t342, .int .i64 t343] 56 (0, 0)) (by (with_reducible repeat (first | refine blk_drewN ?_ _ | refine blk_drew ?_ | refine blk_alloc ?_ _)); exact BK346.out) hb); have n2_ := Aside0.mk (below_step (by repeat (first | (with_reducible first | exact HB.out | apply below_alloc | apply pw_below_drewN | apply below_drew1 | refine below_set ?_ GE345.out | refine below_set ?_ GE346.out) | exact HB.out)) hb); clear BK345; clear BK346; clear HB; have BK345 := n0_; have BK346 := n1_; have HB := n2_; clear n0_ n1_ n2_; (try clear hb); (try clear hb2); (try clear hk); (try clear hi)) | ((with_reducible refine gate_callee (f := 42) rfl ?_); refine goesL_ (some 60) rfl rfl Try.func42 (by kernel_rfl) rfl #[.slice A0 l0.length c0] rfl (by (try simp only [List.map_toArray, List.map_cons, List.map_nil]); first | done | rfl | (simp only [List.length_drop, List.length_take]; rfl)) ?_; (with_reducible refine (spec_DrawSheetWeight.calls k _ _ l0 t351 t352 t353 t354 _ ?side1 ?side2 A7.out).mono ?_); (case side1 => repeat (first | exact (Kd.C_below HR0.out HB.out) | (with_reducible refine Kd.C_alloc ?_ _) | (with_reducible refine Kd.C_drewN ?_ _) | (with_reducible refine Kd.C_drew ?_))); (case side2 => exact HC0.out); rintro e w27 ⟨rfl, hb⟩; refine ⟨_, rfl, ?_⟩; have n0_ := Aside0.mk (blk_below (g := gb345) (o := .cells #[.int .i64 t340, .int .i64 t341] 54 (0, 0)) (by (with_reducible repeat (first | refine blk_drewN ?_ _ | refine blk_drew ?_ | refine blk_alloc ?_ _)); exact BK345.out) hb); have n1_ := Aside0.mk (blk_below (g := gb346) (o := .cells #[.int .i64 t342, .int .i64 t343] 56 (0, 0)) (by (with_reducible repeat (first | refine blk_drewN ?_ _ | refine blk_drew ?_ | refine blk_alloc ?_ _)); exact BK346.out) hb); have n2_ := Aside0.mk (below_step (by repeat (first | (with_reducible first | exact HB.out | apply below_alloc | apply pw_below_drewN | apply below_drew1 | refine below_set ?_ GE345.out | refine below_set ?_ GE346.out) | exact HB.out)) hb); clear BK345; clear BK346; clear HB; have BK345 := n0_; have BK346 := n1_; have HB := n2_; clear n0_ n1_ n2_; (try clear hb); (try clear hb2); (try clear hk); (try clear hi)) | ((with_reducible refine gate_dst (N := 10) rfl ?_); refine box_event ?hg (N := 10) ?hd (cs := #[.int .i64 0, .int .i64 0]) (t := 54) ?hr ?_; (case hd => rfl); (case hg => rfl); (case hr => first | (go_simp; done) | (go_simp; rfl)); intro gb355 hg w28 hbox hb; have n0_ := Aside0.mk (blk_below (g := gb345) (o := .cells #[.int .i64 t340, .int .i64 t341] 54 (0, 0)) (by (with_reducible repeat (first | refine blk_drewN ?_ _ | refine blk_drew ?_ | refine blk_alloc ?_ _)); exact BK345.out) hb); have n1_ := Aside0.mk (blk_below (g := gb346) (o := .cells #[.int .i64 t342, .int .i64 t343] 56 (0, 0)) (by (with_reducible repeat (first | refine blk_drewN ?_ _ | refine blk_drew ?_ | refine blk_alloc ?_ _)); exact BK346.out) hb); have n2_ := Aside0.mk (below_step (by repeat (first | (with_reducible first | exact HB.out | apply below_alloc | apply pw_below_drewN | apply below_drew1 | refine below_set ?_ GE345.out | refine below_set ?_ GE346.out) | exact HB.out)) hb); have n3_ := Aside0.mk (hbox); have n4_ := Aside0.mk ((by rw [hg]; exact (below_size (by repeat (first | (with_reducible first | exact HB.out | apply below_alloc | apply pw_below_drewN | apply below_drew1 | refine below_set ?_ GE345.out | refine below_set ?_ GE346.out) | exact HB.out))) : w.heap.size ≤ gb355)); have n5_ := Aside0.mk ((by rw [hg]; exact (below_size (by repeat (first | (with_reducible first | exact HB.out | apply below_alloc | apply pw_below_drewN | apply below_drew1 | refine below_set ?_ GE345.out | refine below_set ?_ GE346.out) | exact HB.out))) : w.heap.size ≤ gb355)); have n6_ := Aside0.mk ((by rw [hg]; exact Nat.ne_of_lt (blk_lt (g := gb345) (o := .cells #[.int .i64 t340, .int .i64 t341] 54 (0, 0)) (by (with_reducible repeat (first | refine blk_drewN ?_ _ | refine blk_drew ?_ | refine blk_alloc ?_ _)); exact BK345.out)) : gb345 ≠ gb355)); have n7_ := Aside0.mk ((by rw [hg]; exact Nat.ne_of_gt (blk_lt (g := gb345) (o := .cells #[.int .i64 t340, .int .i64 t341] 54 (0, 0)) (by (with_reducible repeat (first | refine blk_drewN ?_ _ | refine blk_drew ?_ | refine blk_alloc ?_ _)); exact BK345.out)) : gb355 ≠ gb345)); have n8_ := Aside0.mk ((by rw [hg]; exact Nat.ne_of_lt (blk_lt (g := gb346) (o := .cells #[.int .i64 t342, .int .i64 t343] 56 (0, 0)) (by (with_reducible repeat (first | refine blk_drewN ?_ _ | refine blk_drew ?_ | refine blk_alloc ?_ _)); exact BK346.out)) : gb346 ≠ gb355)); have n9_ := Aside0.mk ((by rw [hg]; exact Nat.ne_of_gt (blk_lt (g := gb346) (o := .cells #[.int .i64 t342, .int .i64 t343] 56 (0, 0)) (by (with_reducible repeat (first | refine blk_drewN ?_ _ | refine blk_drew ?_ | refine blk_alloc ?_ _)); exact BK346.out)) : gb355 ≠ gb346)); clear BK345; clear BK346; clear HB; have BK345 := n0_; have BK346 := n1_; have HB := n2_; have BK355 := n3_; have GW355 := n4_; have GE355 := n5_; have NB345_355 := n6_; have NB355_345 := n7_; have NB346_355 := n8_; have NB355_346 := n9_; clear n0_ n1_ n2_ n3_ n4_ n5_ n6_ n7_ n8_ n9_; clear hb hbox hg) | ((with_reducible refine gate_dst (N := 11) rfl ?_); refine box_event ?hg (N := 11) ?hd (cs := #[.int .i64 0, .int .i64 0]) (t := 56) ?hr ?_; (case hd => rfl); (case hg => rfl); (case hr => first | (go_simp; done) | (go_simp; rfl)); intro gb356 hg w29 hbox hb; have n0_ := Aside0.mk (blk_below (g := gb345) (o := .cells #[.int .i64 t340, .int .i64 t341] 54 (0, 0)) (by (with_reducible repeat (first | refine blk_drewN ?_ _ | refine blk_drew ?_ | refine blk_alloc ?_ _)); exact BK345.out) hb); have n1_ := Aside0.mk (blk_below (g := gb346) (o := .cells #[.int .i64 t342, .int .i64 t343] 56 (0, 0)) (by (with_reducible repeat (first | refine blk_drewN ?_ _ | refine blk_drew ?_ | refine blk_alloc ?_ _)); exact BK346.out) hb); have n2_ := Aside0.mk (blk_below (g := gb355) (o := .cells #[.int .i64 0, .int .i64 0] 54 (0, 0)) (by (with_reducible repeat (first | refine blk_drewN ?_ _ | refine blk_drew ?_ | refine blk_alloc ?_ _)); exact BK355.out) hb); have n3_ := Aside0.mk (below_step (by repeat (first | (with_reducible first | exact HB.out | apply below_alloc | apply pw_below_drewN | apply below_drew1 | refine below_set ?_ GE345.out | refine below_set ?_ GE346.out | refine below_set ?_ GE355.out) | exact HB.out)) hb); have n4_ := Aside0.mk (hbox); have n5_ := Aside0.mk ((by rw [hg]; exact (below_size (by repeat (first | (with_reducible first | exact HB.out | apply below_alloc | apply pw_below_drewN | apply below_drew1 | refine below_set ?_ GE345.out | refine below_set ?_ GE346.out | refine below_set ?_ GE355.out) | exact HB.out))) : w.heap.size ≤ gb356)); have n6_ := Aside0.mk ((by rw [hg]; exact (below_size (by repeat (first | (with_reducible first | exact HB.out | apply below_alloc | apply pw_below_drewN | apply below_drew1 | refine below_set ?_ GE345.out | refine below_set ?_ GE346.out | refine below_set ?_ GE355.out) | exact HB.out))) : w.heap.size ≤ gb356)); have n7_ := Aside0.mk ((by rw [hg]; exact Nat.ne_of_lt (blk_lt (g := gb345) (o := .cells #[.int .i64 t340, .int .i64 t341] 54 (0, 0)) (by (with_reducible repeat (first | refine blk_drewN ?_ _ | refine blk_drew ?_ | refine blk_alloc ?_ _)); exact BK345.out)) : gb345 ≠ gb356)); have n8_ := Aside0.mk ((by rw [hg]; exact Nat.ne_of_gt (blk_lt (g := gb345) (o := .cells #[.int .i64 t340, .int .i64 t341] 54 (0, 0)) (by (with_reducible repeat (first | refine blk_drewN ?_ _ | refine blk_drew ?_ | refine blk_alloc ?_ _)); exact BK345.out)) : gb356 ≠ gb345)); have n9_ := Aside0.mk ((by rw [hg]; exact Nat.ne_of_lt (blk_lt (g := gb346) (o := .cells #[.int .i64 t342, .int .i64 t343] 56 (0, 0)) (by (with_reducible repeat (first | refine blk_drewN ?_ _ | refine blk_drew ?_ | refine blk_alloc ?_ _)); exact BK346.out)) : gb346 ≠ gb356)); have n10_ := Aside0.mk ((by rw [hg]; exact Nat.ne_of_gt (blk_lt (g := gb346) (o := .cells #[.int .i64 t342, .int .i64 t343] 56 (0, 0)) (by (with_reducible repeat (first | refine blk_drewN ?_ _ | refine blk_drew ?_ | refine blk_alloc ?_ _)); exact BK346.out)) : gb356 ≠ gb346)); have n11_ := Aside0.mk ((by rw [hg]; exact Nat.ne_of_lt (blk_lt (g := gb355) (o := .cells #[.int .i64 0, .int .i64 0] 54 (0, 0)) (by (with_reducible repeat (first | refine blk_drewN ?_ _ | refine blk_drew ?_ | refine blk_alloc ?_ _)); exact BK355.out)) : gb355 ≠ gb356)); have n12_ := Aside0.mk ((by rw [hg]; exact Nat.ne_of_gt (blk_lt (g := gb355) (o := .cells #[.int .i64 0, .int .i64 0] 54 (0, 0)) (by (with_reducible repeat (first | refine blk_drewN ?_ _ | refine blk_drew ?_ | refine blk_alloc ?_ _)); exact BK355.out)) : gb356 ≠ gb355)); clear BK345; clear BK346; clear BK355; clear HB; have BK345 := n0_; have BK346 := n1_; have BK355 := n2_; have HB := n3_; have BK356 := n4_; have GW356 := n5_; have GE356 := n6_; have NB345_356 := n7_; have NB356_345 := n8_; have NB346_356 := n9_; have NB356_346 := n10_; have NB355_356 := n11_; have NB356_355 := n12_; clear n0_ n1_ n2_ n3_ n4_ n5_ n6_ n7_ n8_ n9_ n10_ n11_ n12_; clear hb hbox hg; have hnb30 := NB355_345.out; have hnc30 := NB345_355.out; have hnb31 := NB355_346.out; have hnc31 := NB346_355.out; have hnb32 := NB355_356.out; have hnc32 := NB356_355.out; have hcz33_0 : w29.cell? ⟨gb355, 0, none⟩ = some (.int .i64 0) := (blk_cell BK355.out 0).trans rfl; have hcz33_1 : w29.cell? ⟨gb355, 1, none⟩ = some (.int .i64 0) := (blk_cell BK355.out 1).trans rfl; have hfz33_0 := blk_frozen BK355.out 0; have hfz33_1 := blk_frozen BK355.out 1; have hnb34 := NB356_345.out; have hnc34 := NB345_356.out; have hnb35 := NB356_346.out; have hnc35 := NB346_356.out; have hcz36_0 : w29.cell? ⟨gb356, 0, none⟩ = some (.int .i64 0) := (blk_cell BK356.out 0).trans rfl; have hcz36_1 : w29.cell? ⟨gb356, 1, none⟩ = some (.int .i64 0) := (blk_cell BK356.out 1).trans rfl; have hfz36_0 := blk_frozen BK356.out 0; have hfz36_1 := blk_frozen BK356.out 1) | ((with_reducible refine gate_callee (f := 43) rfl ?_); refine goesL_ (some 66) rfl rfl Try.func43 (by kernel_rfl) rfl #[.agg #[.int .i64 t351, .int .i64 t352], .agg #[.int .i64 t353, .int .i64 t354]] rfl (by (try simp only [List.map_toArray, List.map_cons, List.map_nil]); first | done | rfl | (simp only [List.length_drop, List.length_take]; rfl)) ?_; (with_reducible refine (impl_SheetWeight.calls t351 t352 t353 t354 t357 t358 _ A8.out).mono ?_); rintro e w37 ⟨rfl, hb⟩; refine ⟨_, rfl, ?_⟩; have n0_ := Aside0.mk (blk_below (g := gb345) (o := .cells #[.int .i64 t340, .int .i64 t341] 54 (0, 0)) (by (with_reducible repeat (first | refine blk_drewN ?_ _ | refine blk_drew ?_ | refine blk_alloc ?_ _)); refine blk_far ?_ NB345_356.out _; (with_reducible repeat (first | refine blk_drewN ?_ _ | refine blk_drew ?_ | refine blk_alloc ?_ _)); refine blk_far ?_ NB345_356.out _; (with_reducible repeat (first | refine blk_drewN ?_ _ | refine blk_drew ?_ | refine blk_alloc ?_ _)); refine blk_far ?_ NB345_355.out _; (with_reducible repeat (first | refine blk_drewN ?_ _ | refine blk_drew ?_ | refine blk_alloc ?_ _)); refine blk_far ?_ NB345_355.out _; (with_reducible repeat (first | refine blk_drewN ?_ _ | refine blk_drew ?_ | refine blk_alloc ?_ _)); exact BK345.out) hb); have n1_ := Aside0.mk (blk_below (g := gb346) (o := .cells #[.int .i64 t342, .int .i64 t343] 56 (0, 0)) (by (with_reducible repeat (first | refine blk_drewN ?_ _ | refine blk_drew ?_ | refine blk_alloc ?_ _)); refine blk_far ?_ NB346_356.out _; (with_reducible repeat (first | refine blk_drewN ?_ _ | refine blk_drew ?_ | refine blk_alloc ?_ _)); refine blk_far ?_ NB346_356.out _; (with_reducible repeat (first | refine blk_drewN ?_ _ | refine blk_drew ?_ | refine blk_alloc ?_ _)); refine blk_far ?_ NB346_355.out _; (with_reducible repeat (first | refine blk_drewN ?_ _ | refine blk_drew ?_ | refine blk_alloc ?_ _)); refine blk_far ?_ NB346_355.out _; (with_reducible repeat (first | refine blk_drewN ?_ _ | refine blk_drew ?_ | refine blk_alloc ?_ _)); exact BK346.out) hb); have n2_ := Aside0.mk (blk_below (g := gb355) (o := .cells #[.int .i64 t351, .int .i64 t352] 54 (0, 0)) (by (with_reducible repeat (first | refine blk_drewN ?_ _ | refine blk_drew ?_ | refine blk_alloc ?_ _)); refine blk_far ?_ NB355_356.out _; (with_reducible repeat (first | refine blk_drewN ?_ _ | refine blk_drew ?_ | refine blk_alloc ?_ _)); refine blk_far ?_ NB355_356.out _; (with_reducible repeat (first | refine blk_drewN ?_ _ | refine blk_drew ?_ | refine blk_alloc ?_ _)); refine blk_put (cs := #[.int .i64 t351, .int .i64 0]) ?_ 1 _ rfl; (with_reducible repeat (first | refine blk_drewN ?_ _ | refine blk_drew ?_ | refine blk_alloc ?_ _)); refine blk_put (cs := #[.int .i64 0, .int .i64 0]) ?_ 0 _ rfl; (with_reducible repeat (first | refine blk_drewN ?_ _ | refine blk_drew ?_ | refine blk_alloc ?_ _)); exact BK355.out) hb); have n3_ := Aside0.mk (blk_below (g := gb356) (o := .cells #[.int .i64 t353, .int .i64 t354] 56 (0, 0)) (by (with_reducible repeat (first | refine blk_drewN ?_ _ | refine blk_drew ?_ | refine blk_alloc ?_ _)); refine blk_put (cs := #[.int .i64 t353, .int .i64 0]) ?_ 1 _ rfl; (with_reducible repeat (first | refine blk_drewN ?_ _ | refine blk_drew ?_ | refine blk_alloc ?_ _)); refine blk_put (cs := #[.int .i64 0, .int .i64 0]) ?_ 0 _ rfl; (with_reducible repeat (first | refine blk_drewN ?_ _ | refine blk_drew ?_ | refine blk_alloc ?_ _)); refine blk_far ?_ NB356_355.out _; (with_reducible repeat (first | refine blk_drewN ?_ _ | refine blk_drew ?_ | refine blk_alloc ?_ _)); refine blk_far ?_ NB356_355.out _; (with_reducible repeat (first | refine blk_drewN ?_ _ | refine blk_drew ?_ | refine blk_alloc ?_ _)); exact BK356.out) hb); have n4_ := Aside0.mk (below_step (by repeat (first | (with_reducible first | exact HB.out | apply below_alloc | apply pw_below_drewN | apply below_drew1 | refine below_set ?_ GE345.out | refine below_set ?_ GE346.out | refine below_set ?_ GE355.out | refine below_set ?_ GE356.out) | exact HB.out)) hb); clear BK345; clear BK346; clear BK355; clear BK356; clear HB; have BK345 := n0_; have BK346 := n1_; have BK355 := n2_; have BK356 := n3_; have HB := n4_; clear n0_ n1_ n2_ n3_ n4_; (try clear hb); (try clear hb2); (try clear hk); (try clear hi); have hcz38_0 : w37.cell? ⟨gb355, 0, none⟩ = some (.int .i64 t351) := (blk_cell BK355.out 0).trans rfl; have hcz38_1 : w37.cell? ⟨gb355, 1, none⟩ = some (.int .i64 t352) := (blk_cell BK355.out 1).trans rfl; have hfz38_0 := blk_frozen BK355.out 0; have hfz38_1 := blk_frozen BK355.out 1; have hcz39_0 : w37.cell? ⟨gb356, 0, none⟩ = some (.int .i64 t353) := (blk_cell BK356.out 0).trans rfl; have hcz39_1 : w37.cell? ⟨gb356, 1, none⟩ = some (.int .i64 t354) := (blk_cell BK356.out 1).trans rfl; have hfz39_0 := blk_frozen BK356.out 0; have hfz39_1 := blk_frozen BK356.out 1) | ((with_reducible refine gate_callee (f := 44) rfl ?_); refine goesL_ (some 72) rfl rfl Try.func44 (by kernel_rfl) rfl #[.agg #[.int .i64 t351, .int .i64 t352], .agg #[.int .i64 t353, .int .i64 t354]] rfl (by (try simp only [List.map_toArray, List.map_cons, List.map_nil]); first | done | rfl | (simp only [List.length_drop, List.length_take]; rfl)) ?_; (with_reducible refine (spec_SheetWeight.calls t351 t352 t353 t354 t359 t360 _ A9.out).mono ?_); rintro e w40 ⟨rfl, hb⟩; refine ⟨_, rfl, ?_⟩; have n0_ := Aside0.mk (blk_below (g := gb345) (o := .cells #[.int .i64 t340, .int .i64 t341] 54 (0, 0)) (by (with_reducible repeat (first | refine blk_drewN ?_ _ | refine blk_drew ?_ | refine blk_alloc ?_ _)); exact BK345.out) hb); have n1_ := Aside0.mk (blk_below (g := gb346) (o := .cells #[.int .i64 t342, .int .i64 t343] 56 (0, 0)) (by (with_reducible repeat (first | refine blk_drewN ?_ _ | refine blk_drew ?_ | refine blk_alloc ?_ _)); exact BK346.out) hb); have n2_ := Aside0.mk (blk_below (g := gb355) (o := .cells #[.int .i64 t351, .int .i64 t352] 54 (0, 0)) (by (with_reducible repeat (first | refine blk_drewN ?_ _ | refine blk_drew ?_ | refine blk_alloc ?_ _)); exact BK355.out) hb); have n3_ := Aside0.mk (blk_below (g := gb356) (o := .cells #[.int .i64 t353, .int .i64 t354] 56 (0, 0)) (by (with_reducible repeat (first | refine blk_drewN ?_ _ | refine blk_drew ?_ | refine blk_alloc ?_ _)); exact BK356.out) hb); have n4_ := Aside0.mk (below_step (by repeat (first | (with_reducible first | exact HB.out | apply below_alloc | apply pw_below_drewN | apply below_drew1 | refine below_set ?_ GE345.out | refine below_set ?_ GE346.out | refine below_set ?_ GE355.out | refine below_set ?_ GE356.out) | exact HB.out)) hb); clear BK345; clear BK346; clear BK355; clear BK356; clear HB; have BK345 := n0_; have BK346 := n1_; have BK355 := n2_; have BK356 := n3_; have HB := n4_; clear n0_ n1_ n2_ n3_ n4_; (try clear hb); (try clear hb2); (try clear hk); (try clear hi)) | ((with_reducible refine gate_callee (f := 45) rfl ?_); refine goesL_ (some 77) rfl rfl Try.func45 (by kernel_rfl) rfl #[.slice A0 l0.length c0] rfl (by (try simp only [List.map_toArray, List.map_cons, List.map_nil]); first | done | rfl | (simp only [List.length_drop, List.length_take]; rfl)) ?_; (with_reducible refine (spec_DrawSheetsInHeight.calls k _ _ l0 t361 t362 t363 _ ?side1 ?side2 A10.out).mono ?_); (case side1 => repeat (first | exact (Kd.C_below HR0.out HB.out) | (with_reducible refine Kd.C_alloc ?_ _) | (with_reducible refine Kd.C_drewN ?_ _) | (with_reducible refine Kd.C_drew ?_))); (case side2 => exact HC0.out); rintro e w41 ⟨rfl, hb⟩; refine ⟨_, rfl, ?_⟩; have n0_ := Aside0.mk (blk_below (g := gb345) (o := .cells #[.int .i64 t340, .int .i64 t341] 54 (0, 0)) (by (with_reducible repeat (first | refine blk_drewN ?_ _ | refine blk_drew ?_ | refine blk_alloc ?_ _)); exact BK345.out) hb); have n1_ := Aside0.mk (blk_below (g := gb346) (o := .cells #[.int .i64 t342, .int .i64 t343] 56 (0, 0)) (by (with_reducible repeat (first | refine blk_drewN ?_ _ | refine blk_drew ?_ | refine blk_alloc ?_ _)); exact BK346.out) hb); have n2_ := Aside0.mk (blk_below (g := gb355) (o := .cells #[.int .i64 t351, .int .i64 t352] 54 (0, 0)) (by (with_reducible repeat (first | refine blk_drewN ?_ _ | refine blk_drew ?_ | refine blk_alloc ?_ _)); exact BK355.out) hb); have n3_ := Aside0.mk (blk_below (g := gb356) (o := .cells #[.int .i64 t353, .int .i64 t354] 56 (0, 0)) (by (with_reducible repeat (first | refine blk_drewN ?_ _ | refine blk_drew ?_ | refine blk_alloc ?_ _)); exact BK356.out) hb); have n4_ := Aside0.mk (below_step (by repeat (first | (with_reducible first | exact HB.out | apply below_alloc | apply pw_below_drewN | apply below_drew1 | refine below_set ?_ GE345.out | refine below_set ?_ GE346.out | refine below_set ?_ GE355.out | refine below_set ?_ GE356.out) | exact HB.out)) hb); clear BK345; clear BK346; clear BK355; clear BK356; clear HB; have BK345 := n0_; have BK346 := n1_; have BK355 := n2_; have BK356 := n3_; have HB := n4_; clear n0_ n1_ n2_ n3_ n4_; (try clear hb); (try clear hb2); (try clear hk); (try clear hi)) | ((with_reducible refine gate_dst (N := 16) rfl ?_); refine box_event ?hg (N := 16) ?hd (cs := #[.int .i64 0, .int .i64 0]) (t := 54) ?hr ?_; (case hd => rfl); (case hg => rfl); (case hr => first | (go_simp; done) | (go_simp; rfl)); intro gb364 hg w42 hbox hb; have n0_ := Aside0.mk (blk_below (g := gb345) (o := .cells #[.int .i64 t340, .int .i64 t341] 54 (0, 0)) (by (with_reducible repeat (first | refine blk_drewN ?_ _ | refine blk_drew ?_ | refine blk_alloc ?_ _)); exact BK345.out) hb); have n1_ := Aside0.mk (blk_below (g := gb346) (o := .cells #[.int .i64 t342, .int .i64 t343] 56 (0, 0)) (by (with_reducible repeat (first | refine blk_drewN ?_ _ | refine blk_drew ?_ | refine blk_alloc ?_ _)); exact BK346.out) hb); have n2_ := Aside0.mk (blk_below (g := gb355) (o := .cells #[.int .i64 t351, .int .i64 t352] 54 (0, 0)) (by (with_reducible repeat (first | refine blk_drewN ?_ _ | refine blk_drew ?_ | refine blk_alloc ?_ _)); exact BK355.out) hb); have n3_ := Aside0.mk (blk_below (g := gb356) (o := .cells #[.int .i64 t353, .int .i64 t354] 56 (0, 0)) (by (with_reducible repeat (first | refine blk_drewN ?_ _ | refine blk_drew ?_ | refine blk_alloc ?_ _)); exact BK356.out) hb); have n4_ := Aside0.mk (below_step (by repeat (first | (with_reducible first | exact HB.out | apply below_alloc | apply pw_below_drewN | apply below_drew1 | refine below_set ?_ GE345.out | refine below_set ?_ GE346.out | refine below_set ?_ GE355.out | refine below_set ?_ GE356.out) | exact HB.out)) hb); have n5_ := Aside0.mk (hbox); have n6_ := Aside0.mk ((by rw [hg]; exact (below_size (by repeat (first | (with_reducible first | exact HB.out | apply below_alloc | apply pw_below_drewN | apply below_drew1 | refine below_set ?_ GE345.out | refine below_set ?_ GE346.out | refine below_set ?_ GE355.out | refine below_set ?_ GE356.out) | exact HB.out))) : w.heap.size ≤ gb364)); have n7_ := Aside0.mk ((by rw [hg]; exact (below_size (by repeat (first | (with_reducible first | exact HB.out | apply below_alloc | apply pw_below_drewN | apply below_drew1 | refine below_set ?_ GE345.out | refine below_set ?_ GE346.out | refine below_set ?_ GE355.out | refine below_set ?_ GE356.out) | exact HB.out))) : w.heap.size ≤ gb364)); have n8_ := Aside0.mk ((by rw [hg]; exact Nat.ne_of_lt (blk_lt (g := gb345) (o := .cells #[.int .i64 t340, .int .i64 t341] 54 (0, 0)) (by (with_reducible repeat (first | refine blk_drewN ?_ _ | refine blk_drew ?_ | refine blk_alloc ?_ _)); exact BK345.out)) : gb345 ≠ gb364)); have n9_ := Aside0.mk ((by rw [hg]; exact Nat.ne_of_gt (blk_lt (g := gb345) (o := .cells #[.int .i64 t340, .int .i64 t341] 54 (0, 0)) (by (with_reducible repeat (first | refine blk_drewN ?_ _ | refine blk_drew ?_ | refine blk_alloc ?_ _)); exact BK345.out)) : gb364 ≠ gb345)); have n10_ := Aside0.mk ((by rw [hg]; exact Nat.ne_of_lt (blk_lt (g := gb346) (o := .cells #[.int .i64 t342, .int .i64 t343] 56 (0, 0)) (by (with_reducible repeat (first | refine blk_drewN ?_ _ | refine blk_drew ?_ | refine blk_alloc ?_ _)); exact BK346.out)) : gb346 ≠ gb364)); have n11_ := Aside0.mk ((by rw [hg]; exact Nat.ne_of_gt (blk_lt (g := gb346) (o := .cells #[.int .i64 t342, .int .i64 t343] 56 (0, 0)) (by (with_reducible repeat (first | refine blk_drewN ?_ _ | refine blk_drew ?_ | refine blk_alloc ?_ _)); exact BK346.out)) : gb364 ≠ gb346)); have n12_ := Aside0.mk ((by rw [hg]; exact Nat.ne_of_lt (blk_lt (g := gb355) (o := .cells #[.int .i64 t351, .int .i64 t352] 54 (0, 0)) (by (with_reducible repeat (first | refine blk_drewN ?_ _ | refine blk_drew ?_ | refine blk_alloc ?_ _)); exact BK355.out)) : gb355 ≠ gb364)); have n13_ := Aside0.mk ((by rw [hg]; exact Nat.ne_of_gt (blk_lt (g := gb355) (o := .cells #[.int .i64 t351, .int .i64 t352] 54 (0, 0)) (by (with_reducible repeat (first | refine blk_drewN ?_ _ | refine blk_drew ?_ | refine blk_alloc ?_ _)); exact BK355.out)) : gb364 ≠ gb355)); have n14_ := Aside0.mk ((by rw [hg]; exact Nat.ne_of_lt (blk_lt (g := gb356) (o := .cells #[.int .i64 t353, .int .i64 t354] 56 (0, 0)) (by (with_reducible repeat (first | refine blk_drewN ?_ _ | refine blk_drew ?_ | refine blk_alloc ?_ _)); exact BK356.out)) : gb356 ≠ gb364)); have n15_ := Aside0.mk ((by rw [hg]; exact Nat.ne_of_gt (blk_lt (g := gb356) (o := .cells #[.int .i64 t353, .int .i64 t354] 56 (0, 0)) (by (with_reducible repeat (first | refine blk_drewN ?_ _ | refine blk_drew ?_ | refine blk_alloc ?_ _)); exact BK356.out)) : gb364 ≠ gb356)); clear BK345; clear BK346; clear BK355; clear BK356; clear HB; have BK345 := n0_; have BK346 := n1_; have BK355 := n2_; have BK356 := n3_; have HB := n4_; have BK364 := n5_; have GW364 := n6_; have GE364 := n7_; have NB345_364 := n8_; have NB364_345 := n9_; have NB346_364 := n10_; have NB364_346 := n11_; have NB355_364 := n12_; have NB364_355 := n13_; have NB356_364 := n14_; have NB364_356 := n15_; clear n0_ n1_ n2_ n3_ n4_ n5_ n6_ n7_ n8_ n9_ n10_ n11_ n12_ n13_ n14_ n15_; clear hb hbox hg; have hnb43 := NB364_345.out; have hnc43 := NB345_364.out; have hnb44 := NB364_346.out; have hnc44 := NB346_364.out; have hnb45 := NB364_355.out; have hnc45 := NB355_364.out; have hnb46 := NB364_356.out; have hnc46 := NB356_364.out; have hcz47_0 : w42.cell? ⟨gb364, 0, none⟩ = some (.int .i64 0) := (blk_cell BK364.out 0).trans rfl; have hcz47_1 : w42.cell? ⟨gb364, 1, none⟩ = some (.int .i64 0) := (blk_cell BK364.out 1).trans rfl; have hfz47_0 := blk_frozen BK364.out 0; have hfz47_1 := blk_frozen BK364.out 1) | ((with_reducible refine gate_callee (f := 46) rfl ?_); refine goesL_ (some 83) rfl rfl Try.func46 (by kernel_rfl) rfl #[.agg #[.int .i64 t361, .int .i64 t362], .int .i64 t363] rfl (by (try simp only [List.map_toArray, List.map_cons, List.map_nil]); first | done | rfl | (simp only [List.length_drop, List.length_take]; rfl)) ?_; (with_reducible refine (impl_SheetsInHeight.calls t361 t362 t363 t365 t366 _ A11.out).mono ?_); rintro e w48 ⟨rfl, hb⟩; refine ⟨_, rfl, ?_⟩; have n0_ := Aside0.mk (blk_below (g := gb345) (o := .cells #[.int .i64 t340, .int .i64 t341] 54 (0, 0)) (by (with_reducible repeat (first | refine blk_drewN ?_ _ | refine blk_drew ?_ | refine blk_alloc ?_ _)); refine blk_far ?_ NB345_364.out _; (with_reducible repeat (first | refine blk_drewN ?_ _ | refine blk_drew ?_ | refine blk_alloc ?_ _)); refine blk_far ?_ NB345_364.out _; (with_reducible repeat (first | refine blk_drewN ?_ _ | refine blk_drew ?_ | refine blk_alloc ?_ _)); exact BK345.out) hb); have n1_ := Aside0.mk (blk_below (g := gb346) (o := .cells #[.int .i64 t342, .int .i64 t343] 56 (0, 0)) (by (with_reducible repeat (first | refine blk_drewN ?_ _ | refine blk_drew ?_ | refine blk_alloc ?_ _)); refine blk_far ?_ NB346_364.out _; (with_reducible repeat (first | refine blk_drewN ?_ _ | refine blk_drew ?_ | refine blk_alloc ?_ _)); refine blk_far ?_ NB346_364.out _; (with_reducible repeat (first | refine blk_drewN ?_ _ | refine blk_drew ?_ | refine blk_alloc ?_ _)); exact BK346.out) hb); have n2_ := Aside0.mk (blk_below (g := gb355) (o := .cells #[.int .i64 t351, .int .i64 t352] 54 (0, 0)) (by (with_reducible repeat (first | refine blk_drewN ?_ _ | refine blk_drew ?_ | refine blk_alloc ?_ _)); refine blk_far ?_ NB355_364.out _; (with_reducible repeat (first | refine blk_drewN ?_ _ | refine blk_drew ?_ | refine blk_alloc ?_ _)); refine blk_far ?_ NB355_364.out _; (with_reducible repeat (first | refine blk_drewN ?_ _ | refine blk_drew ?_ | refine blk_alloc ?_ _)); exact BK355.out) hb); have n3_ := Aside0.mk (blk_below (g := gb356) (o := .cells #[.int .i64 t353, .int .i64 t354] 56 (0, 0)) (by (with_reducible repeat (first | refine blk_drewN ?_ _ | refine blk_drew ?_ | refine blk_alloc ?_ _)); refine blk_far ?_ NB356_364.out _; (with_reducible repeat (first | refine blk_drewN ?_ _ | refine blk_drew ?_ | refine blk_alloc ?_ _)); refine blk_far ?_ NB356_364.out _; (with_reducible repeat (first | refine blk_drewN ?_ _ | refine blk_drew ?_ | refine blk_alloc ?_ _)); exact BK356.out) hb); have n4_ := Aside0.mk (blk_below (g := gb364) (o := .cells #[.int .i64 t361, .int .i64 t362] 54 (0, 0)) (by (with_reducible repeat (first | refine blk_drewN ?_ _ | refine blk_drew ?_ | refine blk_alloc ?_ _)); refine blk_put (cs := #[.int .i64 t361, .int .i64 0]) ?_ 1 _ rfl; (with_reducible repeat (first | refine blk_drewN ?_ _ | refine blk_drew ?_ | refine blk_alloc ?_ _)); refine blk_put (cs := #[.int .i64 0, .int .i64 0]) ?_ 0 _ rfl; (with_reducible repeat (first | refine blk_drewN ?_ _ | refine blk_drew ?_ | refine blk_alloc ?_ _)); exact BK364.out) hb); have n5_ := Aside0.mk (below_step (by repeat (first | (with_reducible first | exact HB.out | apply below_alloc | apply pw_below_drewN | apply below_drew1 | refine below_set ?_ GE345.out | refine below_set ?_ GE346.out | refine below_set ?_ GE355.out | refine below_set ?_ GE356.out | refine below_set ?_ GE364.out) | exact HB.out)) hb); clear BK345; clear BK346; clear BK355; clear BK356; clear BK364; clear HB; have BK345 := n0_; have BK346 := n1_; have BK355 := n2_; have BK356 := n3_; have BK364 := n4_; have HB := n5_; clear n0_ n1_ n2_ n3_ n4_ n5_; (try clear hb); (try clear hb2); (try clear hk); (try clear hi); have hcz49_0 : w48.cell? ⟨gb364, 0, none⟩ = some (.int .i64 t361) := (blk_cell BK364.out 0).trans rfl; have hcz49_1 : w48.cell? ⟨gb364, 1, none⟩ = some (.int .i64 t362) := (blk_cell BK364.out 1).trans rfl; have hfz49_0 := blk_frozen BK364.out 0; have hfz49_1 := blk_frozen BK364.out 1) | ((with_reducible refine gate_callee (f := 47) rfl ?_); refine goesL_ (some 89) rfl rfl Try.func47 (by kernel_rfl) rfl #[.agg #[.int .i64 t361, .int .i64 t362], .int .i64 t363] rfl (by (try simp only [List.map_toArray, List.map_cons, List.map_nil]); first | done | rfl | (simp only [List.length_drop, List.length_take]; rfl)) ?_; (with_reducible refine (spec_SheetsInHeight.calls t361 t362 t363 t367 t368 _ A12.out).mono ?_); rintro e w50 ⟨rfl, hb⟩; refine ⟨_, rfl, ?_⟩; have n0_ := Aside0.mk (blk_below (g := gb345) (o := .cells #[.int .i64 t340, .int .i64 t341] 54 (0, 0)) (by (with_reducible repeat (first | refine blk_drewN ?_ _ | refine blk_drew ?_ | refine blk_alloc ?_ _)); exact BK345.out) hb); have n1_ := Aside0.mk (blk_below (g := gb346) (o := .cells #[.int .i64 t342, .int .i64 t343] 56 (0, 0)) (by (with_reducible repeat (first | refine blk_drewN ?_ _ | refine blk_drew ?_ | refine blk_alloc ?_ _)); exact BK346.out) hb); have n2_ := Aside0.mk (blk_below (g := gb355) (o := .cells #[.int .i64 t351, .int .i64 t352] 54 (0, 0)) (by (with_reducible repeat (first | refine blk_drewN ?_ _ | refine blk_drew ?_ | refine blk_alloc ?_ _)); exact BK355.out) hb); have n3_ := Aside0.mk (blk_below (g := gb356) (o := .cells #[.int .i64 t353, .int .i64 t354] 56 (0, 0)) (by (with_reducible repeat (first | refine blk_drewN ?_ _ | refine blk_drew ?_ | refine blk_alloc ?_ _)); exact BK356.out) hb); have n4_ := Aside0.mk (blk_below (g := gb364) (o := .cells #[.int .i64 t361, .int .i64 t362] 54 (0, 0)) (by (with_reducible repeat (first | refine blk_drewN ?_ _ | refine blk_drew ?_ | refine blk_alloc ?_ _)); exact BK364.out) hb); have n5_ := Aside0.mk (below_step (by repeat (first | (with_reducible first | exact HB.out | apply below_alloc | apply pw_below_drewN | apply below_drew1 | refine below_set ?_ GE345.out | refine below_set ?_ GE346.out | refine below_set ?_ GE355.out | refine below_set ?_ GE356.out | refine below_set ?_ GE364.out) | exact HB.out)) hb); clear BK345; clear BK346; clear BK355; clear BK356; clear BK364; clear HB; have BK345 := n0_; have BK346 := n1_; have BK355 := n2_; have BK356 := n3_; have BK364 := n4_; have HB := n5_; clear n0_ n1_ n2_ n3_ n4_ n5_; (try clear hb); (try clear hb2); (try clear hk); (try clear hi)) | ((with_reducible refine gate_callee (f := 48) rfl ?_); refine goesL_ (some 93) rfl rfl Try.func48 (by kernel_rfl) rfl #[.slice A0 l0.length c0] rfl (by (try simp only [List.map_toArray, List.map_cons, List.map_nil]); first | done | rfl | (simp only [List.length_drop, List.length_take]; rfl)) ?_; (with_reducible refine (spec_DrawPartsThickness.calls k _ _ l0 t369 _ ?side1 ?side2 A13.out).mono ?_); (case side1 => repeat (first | exact (Kd.C_below HR0.out HB.out) | (with_reducible refine Kd.C_alloc ?_ _) | (with_reducible refine Kd.C_drewN ?_ _) | (with_reducible refine Kd.C_drew ?_))); (case side2 => exact HC0.out); rintro e w51 ⟨v370, rfl, ho0, hb⟩; refine ⟨_, rfl, ?_⟩; have n0_ := Aside0.mk (Kd.R_lower ho0 (below_size (by repeat (first | (with_reducible first | exact HB.out | apply below_alloc | apply pw_below_drewN | apply below_drew1 | refine below_set ?_ GE345.out | refine below_set ?_ GE346.out | refine below_set ?_ GE355.out | refine below_set ?_ GE356.out | refine below_set ?_ GE364.out) | exact HB.out)))); have n1_ := Aside0.mk (blk_below (g := gb345) (o := .cells #[.int .i64 t340, .int .i64 t341] 54 (0, 0)) (by (with_reducible repeat (first | refine blk_drewN ?_ _ | refine blk_drew ?_ | refine blk_alloc ?_ _)); exact BK345.out) hb); have n2_ := Aside0.mk (blk_below (g := gb346) (o := .cells #[.int .i64 t342, .int .i64 t343] 56 (0, 0)) (by (with_reducible repeat (first | refine blk_drewN ?_ _ | refine blk_drew ?_ | refine blk_alloc ?_ _)); exact BK346.out) hb); have n3_ := Aside0.mk (blk_below (g := gb355) (o := .cells #[.int .i64 t351, .int .i64 t352] 54 (0, 0)) (by (with_reducible repeat (first | refine blk_drewN ?_ _ | refine blk_drew ?_ | refine blk_alloc ?_ _)); exact BK355.out) hb); have n4_ := Aside0.mk (blk_below (g := gb356) (o := .cells #[.int .i64 t353, .int .i64 t354] 56 (0, 0)) (by (with_reducible repeat (first | refine blk_drewN ?_ _ | refine blk_drew ?_ | refine blk_alloc ?_ _)); exact BK356.out) hb); have n5_ := Aside0.mk (blk_below (g := gb364) (o := .cells #[.int .i64 t361, .int .i64 t362] 54 (0, 0)) (by (with_reducible repeat (first | refine blk_drewN ?_ _ | refine blk_drew ?_ | refine blk_alloc ?_ _)); exact BK364.out) hb); have n6_ := Aside0.mk (below_step (by repeat (first | (with_reducible first | exact HB.out | apply below_alloc | apply pw_below_drewN | apply below_drew1 | refine below_set ?_ GE345.out | refine below_set ?_ GE346.out | refine below_set ?_ GE355.out | refine below_set ?_ GE356.out | refine below_set ?_ GE364.out) | exact HB.out)) hb); clear BK345; clear BK346; clear BK355; clear BK356; clear BK364; clear HB; have HO371 := n0_; have BK345 := n1_; have BK346 := n2_; have BK355 := n3_; have BK356 := n4_; have BK364 := n5_; have HB := n6_; clear n0_ n1_ n2_ n3_ n4_ n5_ n6_; (try clear hb); (try clear hb2); (try clear hk); (try clear hi); (try clear ho0); obtain ⟨Ao52, co52, eo52⟩ := Kd.R_slice HO371.out; subst eo52) | ((with_reducible refine gate_callee (f := 49) rfl ?_); refine goesL_ (some 96) rfl rfl Try.func49 (by kernel_rfl) rfl #[.slice Ao52 t369.length co52] rfl (by (try simp only [List.map_toArray, List.map_cons, List.map_nil]); first | done | rfl | (simp only [List.length_drop, List.length_take]; rfl)) ?_; (with_reducible refine (impl_PartsThickness.calls k _ _ t369 t372 t373 _ ?side1 ?side2 A14.out).mono ?_); (case side1 => repeat (first | exact (Kd.R_reads' HO371.out).2.2 | (with_reducible refine Kd.C_alloc ?_ _) | (with_reducible refine Kd.C_drewN ?_ _) | (with_reducible refine Kd.C_drew ?_))); (case side2 => exact (Kd.R_reads' HO371.out).2.1); rintro e w53 ⟨rfl, hb⟩; refine ⟨_, rfl, ?_⟩; have n0_ := Aside0.mk (Kd.R_below (by (with_reducible repeat (first | apply Kd.R_alloc | apply Kd.R_drewN | apply Kd.R_drew)); exact HO371.out) hb); have n1_ := Aside0.mk (blk_below (g := gb345) (o := .cells #[.int .i64 t340, .int .i64 t341] 54 (0, 0)) (by (with_reducible repeat (first | refine blk_drewN ?_ _ | refine blk_drew ?_ | refine blk_alloc ?_ _)); exact BK345.out) hb); have n2_ := Aside0.mk (blk_below (g := gb346) (o := .cells #[.int .i64 t342, .int .i64 t343] 56 (0, 0)) (by (with_reducible repeat (first | refine blk_drewN ?_ _ | refine blk_drew ?_ | refine blk_alloc ?_ _)); exact BK346.out) hb); have n3_ := Aside0.mk (blk_below (g := gb355) (o := .cells #[.int .i64 t351, .int .i64 t352] 54 (0, 0)) (by (with_reducible repeat (first | refine blk_drewN ?_ _ | refine blk_drew ?_ | refine blk_alloc ?_ _)); exact BK355.out) hb); have n4_ := Aside0.mk (blk_below (g := gb356) (o := .cells #[.int .i64 t353, .int .i64 t354] 56 (0, 0)) (by (with_reducible repeat (first | refine blk_drewN ?_ _ | refine blk_drew ?_ | refine blk_alloc ?_ _)); exact BK356.out) hb); have n5_ := Aside0.mk (blk_below (g := gb364) (o := .cells #[.int .i64 t361, .int .i64 t362] 54 (0, 0)) (by (with_reducible repeat (first | refine blk_drewN ?_ _ | refine blk_drew ?_ | refine blk_alloc ?_ _)); exact BK364.out) hb); have n6_ := Aside0.mk (below_step (by repeat (first | (with_reducible first | exact HB.out | apply below_alloc | apply pw_below_drewN | apply below_drew1 | refine below_set ?_ GE345.out | refine below_set ?_ GE346.out | refine below_set ?_ GE355.out | refine below_set ?_ GE356.out | refine below_set ?_ GE364.out) | exact HB.out)) hb); clear HO371; clear BK345; clear BK346; clear BK355; clear BK356; clear BK364; clear HB; have HO371 := n0_; have BK345 := n1_; have BK346 := n2_; have BK355 := n3_; have BK356 := n4_; have BK364 := n5_; have HB := n6_; clear n0_ n1_ n2_ n3_ n4_ n5_ n6_; (try clear hb); (try clear hb2); (try clear hk); (try clear hi)) | ((with_reducible refine gate_callee (f := 50) rfl ?_); refine goesL_ (some 101) rfl rfl Try.func50 (by kernel_rfl) rfl #[.slice Ao52 t369.length co52] rfl (by (try simp only [List.map_toArray, List.map_cons, List.map_nil]); first | done | rfl | (simp only [List.length_drop, List.length_take]; rfl)) ?_; (with_reducible refine (spec_PartsThickness.calls k _ _ t369 t374 t375 _ ?side1 ?side2 A15.out).mono ?_); (case side1 => repeat (first | exact (Kd.R_reads' HO371.out).2.2 | (with_reducible refine Kd.C_alloc ?_ _) | (with_reducible refine Kd.C_drewN ?_ _) | (with_reducible refine Kd.C_drew ?_))); (case side2 => exact (Kd.R_reads' HO371.out).2.1); rintro e w54 ⟨rfl, hb⟩; refine ⟨_, rfl, ?_⟩; have n0_ := Aside0.mk (Kd.R_below (by (with_reducible repeat (first | apply Kd.R_alloc | apply Kd.R_drewN | apply Kd.R_drew)); exact HO371.out) hb); have n1_ := Aside0.mk (blk_below (g := gb345) (o := .cells #[.int .i64 t340, .int .i64 t341] 54 (0, 0)) (by (with_reducible repeat (first | refine blk_drewN ?_ _ | refine blk_drew ?_ | refine blk_alloc ?_ _)); exact BK345.out) hb); have n2_ := Aside0.mk (blk_below (g := gb346) (o := .cells #[.int .i64 t342, .int .i64 t343] 56 (0, 0)) (by (with_reducible repeat (first | refine blk_drewN ?_ _ | refine blk_drew ?_ | refine blk_alloc ?_ _)); exact BK346.out) hb); have n3_ := Aside0.mk (blk_below (g := gb355) (o := .cells #[.int .i64 t351, .int .i64 t352] 54 (0, 0)) (by (with_reducible repeat (first | refine blk_drewN ?_ _ | refine blk_drew ?_ | refine blk_alloc ?_ _)); exact BK355.out) hb); have n4_ := Aside0.mk (blk_below (g := gb356) (o := .cells #[.int .i64 t353, .int .i64 t354] 56 (0, 0)) (by (with_reducible repeat (first | refine blk_drewN ?_ _ | refine blk_drew ?_ | refine blk_alloc ?_ _)); exact BK356.out) hb); have n5_ := Aside0.mk (blk_below (g := gb364) (o := .cells #[.int .i64 t361, .int .i64 t362] 54 (0, 0)) (by (with_reducible repeat (first | refine blk_drewN ?_ _ | refine blk_drew ?_ | refine blk_alloc ?_ _)); exact BK364.out) hb); have n6_ := Aside0.mk (below_step (by repeat (first | (with_reducible first | exact HB.out | apply below_alloc | apply pw_below_drewN | apply below_drew1 | refine below_set ?_ GE345.out | refine below_set ?_ GE346.out | refine below_set ?_ GE355.out | refine below_set ?_ GE356.out | refine below_set ?_ GE364.out) | exact HB.out)) hb); clear HO371; clear BK345; clear BK346; clear BK355; clear BK356; clear BK364; clear HB; have HO371 := n0_; have BK345 := n1_; have BK346 := n2_; have BK355 := n3_; have BK356 := n4_; have BK364 := n5_; have HB := n6_; clear n0_ n1_ n2_ n3_ n4_ n5_ n6_; (try clear hb); (try clear hb2); (try clear hk); (try clear hi)))
    (try simp only [Act.put, List.setIfInBounds_toArray, List.set_cons_zero, List.set_cons_succ])
    go_cut [141] (fun v141 wc => ∃ (kq : Nat) (x141_15 : Bool), v141 = .bool x141_15 ∧ Aside0 (laws_FnWeights.j0 kq t344 t347 t348 t363 t365 t366 t369 t372 t373 x141_15 t340 t341 t342 t343 t361 t362 = some r) ∧ Aside0 (kq ≤ k) ∧ Aside0 (Kd.R k71 71 wc w.heap.size (fun _ => True) (.slice Ao52 t369.length co52) t369) ∧ Aside0 (wc.heap[gb345]? = some (.cells #[.int .i64 t340, .int .i64 t341] 54 (0, 0))) ∧ Aside0 (wc.heap[gb346]? = some (.cells #[.int .i64 t342, .int .i64 t343] 56 (0, 0))) ∧ Aside0 (wc.heap[gb355]? = some (.cells #[.int .i64 t351, .int .i64 t352] 54 (0, 0))) ∧ Aside0 (wc.heap[gb356]? = some (.cells #[.int .i64 t353, .int .i64 t354] 56 (0, 0))) ∧ Aside0 (wc.heap[gb364]? = some (.cells #[.int .i64 t361, .int .i64 t362] 54 (0, 0))) ∧ Aside0 (Below w.heap.size w wc))
    case first => as_aux_lemma =>
      have H := HC16.out
      clear HC16
      by_cases c55 : t348 = t350
      · rw [if_pos c55] at H
        have c55b0 : (t348 == t350) = true := beq_iff_eq.mpr c55
        have c55b1 : (t348 != t350) = false := bne_eq_false_iff_eq.mpr c55
        clear c55
        (first | rw [c55b0] | (simp only [i64_w, i32_w]; rw [c55b0]) | skip)
        by_cases c56 : t347 = t349
        · rw [if_pos c56] at H
          have c56b0 : (t347 == t349) = true := beq_iff_eq.mpr c56
          have c56b1 : (t347 != t349) = false := bne_eq_false_iff_eq.mpr c56
          clear c56
          by_cases c57 : t358 = t360
          · rw [if_pos c57] at H
            have c57b0 : (t358 == t360) = true := beq_iff_eq.mpr c57
            have c57b1 : (t358 != t360) = false := bne_eq_false_iff_eq.mpr c57
            clear c57
            by_cases c58 : t357 = t359
            · rw [if_pos c58] at H
              have c58b0 : (t357 == t359) = true := beq_iff_eq.mpr c58
              have c58b1 : (t357 != t359) = false := bne_eq_false_iff_eq.mpr c58
              clear c58
              by_cases c59 : t366 = t368
              · rw [if_pos c59] at H
                have c59b0 : (t366 == t368) = true := beq_iff_eq.mpr c59
                have c59b1 : (t366 != t368) = false := bne_eq_false_iff_eq.mpr c59
                clear c59
                by_cases c60 : t365 = t367
                · rw [if_pos c60] at H
                  have c60b0 : (t365 == t367) = true := beq_iff_eq.mpr c60
                  have c60b1 : (t365 != t367) = false := bne_eq_false_iff_eq.mpr c60
                  clear c60
                  by_cases c61 : t373 = t375
                  · rw [if_pos c61] at H
                    have c61b0 : (t373 == t375) = true := beq_iff_eq.mpr c61
                    have c61b1 : (t373 != t375) = false := bne_eq_false_iff_eq.mpr c61
                    clear c61
                    have H' := Aside0.mk H
                    clear H
                    go_wp2
                    go_meet
                    case rel => exact ⟨_, ((t372 != t374)), (by first | rfl | (simp; done) | (simp [*]; done)), H', ⟨by first | omega | exact Nat.le_refl _⟩, ⟨by (with_reducible repeat (first | apply Kd.R_alloc | apply Kd.R_drewN | apply Kd.R_drew)); exact HO371.out⟩, ⟨by (with_reducible repeat (first | refine blk_drewN ?_ _ | refine blk_drew ?_ | refine blk_alloc ?_ _)); exact BK345.out⟩, ⟨by (with_reducible repeat (first | refine blk_drewN ?_ _ | refine blk_drew ?_ | refine blk_alloc ?_ _)); exact BK346.out⟩, ⟨by (with_reducible repeat (first | refine blk_drewN ?_ _ | refine blk_drew ?_ | refine blk_alloc ?_ _)); exact BK355.out⟩, ⟨by (with_reducible repeat (first | refine blk_drewN ?_ _ | refine blk_drew ?_ | refine blk_alloc ?_ _)); exact BK356.out⟩, ⟨by (with_reducible repeat (first | refine blk_drewN ?_ _ | refine blk_drew ?_ | refine blk_alloc ?_ _)); exact BK364.out⟩, ⟨by repeat (first | (with_reducible first | exact HB.out | apply below_alloc | apply pw_below_drewN | apply below_drew1 | refine below_set ?_ GE345.out | refine below_set ?_ GE346.out | refine below_set ?_ GE355.out | refine below_set ?_ GE356.out | refine below_set ?_ GE364.out) | exact HB.out)⟩⟩
                  · rw [if_neg c61] at H
                    have c61b0 : (t373 == t375) = false := beq_eq_false_iff_ne.mpr c61
                    have c61b1 : (t373 != t375) = true := bne_iff_ne.mpr c61
                    have H' := Aside0.mk H
                    clear H
                    go_wp2
                    go_meet
                    case rel => exact ⟨_, (true), (by first | rfl | (simp; done) | (simp [*]; done)), H', ⟨by first | omega | exact Nat.le_refl _⟩, ⟨by (with_reducible repeat (first | apply Kd.R_alloc | apply Kd.R_drewN | apply Kd.R_drew)); exact HO371.out⟩, ⟨by (with_reducible repeat (first | refine blk_drewN ?_ _ | refine blk_drew ?_ | refine blk_alloc ?_ _)); exact BK345.out⟩, ⟨by (with_reducible repeat (first | refine blk_drewN ?_ _ | refine blk_drew ?_ | refine blk_alloc ?_ _)); exact BK346.out⟩, ⟨by (with_reducible repeat (first | refine blk_drewN ?_ _ | refine blk_drew ?_ | refine blk_alloc ?_ _)); exact BK355.out⟩, ⟨by (with_reducible repeat (first | refine blk_drewN ?_ _ | refine blk_drew ?_ | refine blk_alloc ?_ _)); exact BK356.out⟩, ⟨by (with_reducible repeat (first | refine blk_drewN ?_ _ | refine blk_drew ?_ | refine blk_alloc ?_ _)); exact BK364.out⟩, ⟨by repeat (first | (with_reducible first | exact HB.out | apply below_alloc | apply pw_below_drewN | apply below_drew1 | refine below_set ?_ GE345.out | refine below_set ?_ GE346.out | refine below_set ?_ GE355.out | refine below_set ?_ GE356.out | refine below_set ?_ GE364.out) | exact HB.out)⟩⟩
                · rw [if_neg c60] at H
                  have c60b0 : (t365 == t367) = false := beq_eq_false_iff_ne.mpr c60
                  have c60b1 : (t365 != t367) = true := bne_iff_ne.mpr c60
                  have H' := Aside0.mk H
                  clear H
                  go_wp2
                  go_meet
                  case rel => exact ⟨_, (true), (by first | rfl | (simp; done) | (simp [*]; done)), H', ⟨by first | omega | exact Nat.le_refl _⟩, ⟨by (with_reducible repeat (first | apply Kd.R_alloc | apply Kd.R_drewN | apply Kd.R_drew)); exact HO371.out⟩, ⟨by (with_reducible repeat (first | refine blk_drewN ?_ _ | refine blk_drew ?_ | refine blk_alloc ?_ _)); exact BK345.out⟩, ⟨by (with_reducible repeat (first | refine blk_drewN ?_ _ | refine blk_drew ?_ | refine blk_alloc ?_ _)); exact BK346.out⟩, ⟨by (with_reducible repeat (first | refine blk_drewN ?_ _ | refine blk_drew ?_ | refine blk_alloc ?_ _)); exact BK355.out⟩, ⟨by (with_reducible repeat (first | refine blk_drewN ?_ _ | refine blk_drew ?_ | refine blk_alloc ?_ _)); exact BK356.out⟩, ⟨by (with_reducible repeat (first | refine blk_drewN ?_ _ | refine blk_drew ?_ | refine blk_alloc ?_ _)); exact BK364.out⟩, ⟨by repeat (first | (with_reducible first | exact HB.out | apply below_alloc | apply pw_below_drewN | apply below_drew1 | refine below_set ?_ GE345.out | refine below_set ?_ GE346.out | refine below_set ?_ GE355.out | refine below_set ?_ GE356.out | refine below_set ?_ GE364.out) | exact HB.out)⟩⟩
              · rw [if_neg c59] at H
                have c59b0 : (t366 == t368) = false := beq_eq_false_iff_ne.mpr c59
                have c59b1 : (t366 != t368) = true := bne_iff_ne.mpr c59
                have H' := Aside0.mk H
                clear H
                go_wp2
                go_meet
                case rel => exact ⟨_, (true), (by first | rfl | (simp; done) | (simp [*]; done)), H', ⟨by first | omega | exact Nat.le_refl _⟩, ⟨by (with_reducible repeat (first | apply Kd.R_alloc | apply Kd.R_drewN | apply Kd.R_drew)); exact HO371.out⟩, ⟨by (with_reducible repeat (first | refine blk_drewN ?_ _ | refine blk_drew ?_ | refine blk_alloc ?_ _)); exact BK345.out⟩, ⟨by (with_reducible repeat (first | refine blk_drewN ?_ _ | refine blk_drew ?_ | refine blk_alloc ?_ _)); exact BK346.out⟩, ⟨by (with_reducible repeat (first | refine blk_drewN ?_ _ | refine blk_drew ?_ | refine blk_alloc ?_ _)); exact BK355.out⟩, ⟨by (with_reducible repeat (first | refine blk_drewN ?_ _ | refine blk_drew ?_ | refine blk_alloc ?_ _)); exact BK356.out⟩, ⟨by (with_reducible repeat (first | refine blk_drewN ?_ _ | refine blk_drew ?_ | refine blk_alloc ?_ _)); exact BK364.out⟩, ⟨by repeat (first | (with_reducible first | exact HB.out | apply below_alloc | apply pw_below_drewN | apply below_drew1 | refine below_set ?_ GE345.out | refine below_set ?_ GE346.out | refine below_set ?_ GE355.out | refine below_set ?_ GE356.out | refine below_set ?_ GE364.out) | exact HB.out)⟩⟩
            · rw [if_neg c58] at H
              have c58b0 : (t357 == t359) = false := beq_eq_false_iff_ne.mpr c58
              have c58b1 : (t357 != t359) = true := bne_iff_ne.mpr c58
              have H' := Aside0.mk H
              clear H
              go_wp2
              go_meet
              case rel => exact ⟨_, (true), (by first | rfl | (simp; done) | (simp [*]; done)), H', ⟨by first | omega | exact Nat.le_refl _⟩, ⟨by (with_reducible repeat (first | apply Kd.R_alloc | apply Kd.R_drewN | apply Kd.R_drew)); exact HO371.out⟩, ⟨by (with_reducible repeat (first | refine blk_drewN ?_ _ | refine blk_drew ?_ | refine blk_alloc ?_ _)); exact BK345.out⟩, ⟨by (with_reducible repeat (first | refine blk_drewN ?_ _ | refine blk_drew ?_ | refine blk_alloc ?_ _)); exact BK346.out⟩, ⟨by (with_reducible repeat (first | refine blk_drewN ?_ _ | refine blk_drew ?_ | refine blk_alloc ?_ _)); exact BK355.out⟩, ⟨by (with_reducible repeat (first | refine blk_drewN ?_ _ | refine blk_drew ?_ | refine blk_alloc ?_ _)); exact BK356.out⟩, ⟨by (with_reducible repeat (first | refine blk_drewN ?_ _ | refine blk_drew ?_ | refine blk_alloc ?_ _)); exact BK364.out⟩, ⟨by repeat (first | (with_reducible first | exact HB.out | apply below_alloc | apply pw_below_drewN | apply below_drew1 | refine below_set ?_ GE345.out | refine below_set ?_ GE346.out | refine below_set ?_ GE355.out | refine below_set ?_ GE356.out | refine below_set ?_ GE364.out) | exact HB.out)⟩⟩
          · rw [if_neg c57] at H
            have c57b0 : (t358 == t360) = false := beq_eq_false_iff_ne.mpr c57
            have c57b1 : (t358 != t360) = true := bne_iff_ne.mpr c57
            have H' := Aside0.mk H
            clear H
            go_wp2
            go_meet
            case rel => exact ⟨_, (true), (by first | rfl | (simp; done) | (simp [*]; done)), H', ⟨by first | omega | exact Nat.le_refl _⟩, ⟨by (with_reducible repeat (first | apply Kd.R_alloc | apply Kd.R_drewN | apply Kd.R_drew)); exact HO371.out⟩, ⟨by (with_reducible repeat (first | refine blk_drewN ?_ _ | refine blk_drew ?_ | refine blk_alloc ?_ _)); exact BK345.out⟩, ⟨by (with_reducible repeat (first | refine blk_drewN ?_ _ | refine blk_drew ?_ | refine blk_alloc ?_ _)); exact BK346.out⟩, ⟨by (with_reducible repeat (first | refine blk_drewN ?_ _ | refine blk_drew ?_ | refine blk_alloc ?_ _)); exact BK355.out⟩, ⟨by (with_reducible repeat (first | refine blk_drewN ?_ _ | refine blk_drew ?_ | refine blk_alloc ?_ _)); exact BK356.out⟩, ⟨by (with_reducible repeat (first | refine blk_drewN ?_ _ | refine blk_drew ?_ | refine blk_alloc ?_ _)); exact BK364.out⟩, ⟨by repeat (first | (with_reducible first | exact HB.out | apply below_alloc | apply pw_below_drewN | apply below_drew1 | refine below_set ?_ GE345.out | refine below_set ?_ GE346.out | refine below_set ?_ GE355.out | refine below_set ?_ GE356.out | refine below_set ?_ GE364.out) | exact HB.out)⟩⟩
        · rw [if_neg c56] at H
          have c56b0 : (t347 == t349) = false := beq_eq_false_iff_ne.mpr c56
          have c56b1 : (t347 != t349) = true := bne_iff_ne.mpr c56
          have H' := Aside0.mk H
          clear H
          go_wp2
          go_meet
          case rel => exact ⟨_, (true), (by first | rfl | (simp; done) | (simp [*]; done)), H', ⟨by first | omega | exact Nat.le_refl _⟩, ⟨by (with_reducible repeat (first | apply Kd.R_alloc | apply Kd.R_drewN | apply Kd.R_drew)); exact HO371.out⟩, ⟨by (with_reducible repeat (first | refine blk_drewN ?_ _ | refine blk_drew ?_ | refine blk_alloc ?_ _)); exact BK345.out⟩, ⟨by (with_reducible repeat (first | refine blk_drewN ?_ _ | refine blk_drew ?_ | refine blk_alloc ?_ _)); exact BK346.out⟩, ⟨by (with_reducible repeat (first | refine blk_drewN ?_ _ | refine blk_drew ?_ | refine blk_alloc ?_ _)); exact BK355.out⟩, ⟨by (with_reducible repeat (first | refine blk_drewN ?_ _ | refine blk_drew ?_ | refine blk_alloc ?_ _)); exact BK356.out⟩, ⟨by (with_reducible repeat (first | refine blk_drewN ?_ _ | refine blk_drew ?_ | refine blk_alloc ?_ _)); exact BK364.out⟩, ⟨by repeat (first | (with_reducible first | exact HB.out | apply below_alloc | apply pw_below_drewN | apply below_drew1 | refine below_set ?_ GE345.out | refine below_set ?_ GE346.out | refine below_set ?_ GE355.out | refine below_set ?_ GE356.out | refine below_set ?_ GE364.out) | exact HB.out)⟩⟩
      · rw [if_neg c55] at H
        have c55b0 : (t348 == t350) = false := beq_eq_false_iff_ne.mpr c55
        have c55b1 : (t348 != t350) = true := bne_iff_ne.mpr c55
        (first | rw [c55b0] | (simp only [i64_w, i32_w]; rw [c55b0]) | skip)
        have H' := Aside0.mk H
        clear H
        go_wp2
        go_meet
        case rel => exact ⟨_, (true), (by first | rfl | (simp; done) | (simp [*]; done)), H', ⟨by first | omega | exact Nat.le_refl _⟩, ⟨by (with_reducible repeat (first | apply Kd.R_alloc | apply Kd.R_drewN | apply Kd.R_drew)); exact HO371.out⟩, ⟨by (with_reducible repeat (first | refine blk_drewN ?_ _ | refine blk_drew ?_ | refine blk_alloc ?_ _)); exact BK345.out⟩, ⟨by (with_reducible repeat (first | refine blk_drewN ?_ _ | refine blk_drew ?_ | refine blk_alloc ?_ _)); exact BK346.out⟩, ⟨by (with_reducible repeat (first | refine blk_drewN ?_ _ | refine blk_drew ?_ | refine blk_alloc ?_ _)); exact BK355.out⟩, ⟨by (with_reducible repeat (first | refine blk_drewN ?_ _ | refine blk_drew ?_ | refine blk_alloc ?_ _)); exact BK356.out⟩, ⟨by (with_reducible repeat (first | refine blk_drewN ?_ _ | refine blk_drew ?_ | refine blk_alloc ?_ _)); exact BK364.out⟩, ⟨by repeat (first | (with_reducible first | exact HB.out | apply below_alloc | apply pw_below_drewN | apply below_drew1 | refine below_set ?_ GE345.out | refine below_set ?_ GE346.out | refine below_set ?_ GE355.out | refine below_set ?_ GE356.out | refine below_set ?_ GE364.out) | exact HB.out)⟩⟩
    case rest => as_aux_lemma =>
      clear HC16
      try clear c2
      try clear p2
      try clear c3
      try clear c4
      try clear c5
      try clear c6
      try clear c8
      try clear c20
      try clear c30
      try clear c31
      try clear c32
      try clear c34
      try clear c35
      try clear c38
      try clear c39
      try clear c40
      try clear c41
      try clear c42
      try clear c43
      try clear c44
      try clear c45
      try clear c46
      try clear c47
      try clear c48
      try clear c49
      try clear c50
      try clear c55
      try clear c55b0
      try clear c55b1
      try clear c56
      try clear c56b0
      try clear c56b1
      try clear c57
      try clear c57b0
      try clear c57b1
      try clear c58
      try clear c58b0
      try clear c58b1
      try clear c59
      try clear c59b0
      try clear c59b1
      try clear c60
      try clear c60b0
      try clear c60b1
      try clear c61
      try clear c61b0
      try clear c61b1
      try clear hcz21_0
      try clear hcz21_1
      try clear hcz22_0
      try clear hcz22_1
      try clear hcz24_0
      try clear hcz24_1
      try clear hcz25_0
      try clear hcz25_1
      try clear hcz33_0
      try clear hcz33_1
      try clear hcz36_0
      try clear hcz36_1
      try clear hcz38_0
      try clear hcz38_1
      try clear hcz39_0
      try clear hcz39_1
      try clear hcz47_0
      try clear hcz47_1
      try clear hcz49_0
      try clear hcz49_1
      try clear hfz21_0
      try clear hfz21_1
      try clear hfz22_0
      try clear hfz22_1
      try clear hfz24_0
      try clear hfz24_1
      try clear hfz25_0
      try clear hfz25_1
      try clear hfz33_0
      try clear hfz33_1
      try clear hfz36_0
      try clear hfz36_1
      try clear hfz38_0
      try clear hfz38_1
      try clear hfz39_0
      try clear hfz39_1
      try clear hfz47_0
      try clear hfz47_1
      try clear hfz49_0
      try clear hfz49_1
      obtain ⟨kq, x141_15, rfl, HA, HJ15, HO_22, BK345, BK346, BK355, BK356, BK364, HB⟩ := hcut
      cases kq with
      | zero => exact absurd HA.out (by simp [laws_FnWeights.j0])
      | succ kj15 =>
        have H := HA.out
        clear HA
        simp only [laws_FnWeights.j0] at H
        by_cases c62 : x141_15 = true
        · subst c62
          have H1 : (some false) = some r := by rw [if_pos rfl] at H; exact H
          clear H
          have H := H1
          clear H1
          exact absurd ((Option.some.inj H).trans hT.out) (by decide)
        · replace c62 := Bool.eq_false_iff.mpr c62
          subst c62
          have H1 : (if t366 = 0 then ((impl_PaperThickness.f t361 t362).bind fun bt376 => (if bt376.2 = 0 then (if (wrap64 (t365 * bt376.1)) > (wrap64 (100 * t363)) then (some false) else (if (wrap64 ((wrap64 (t365 + 1)) * bt376.1)) ≤ (wrap64 (100 * t363)) then (some false) else (laws_FnWeights.j1 kj15 t344 t347 t348 t369 t372 t373 t340 t341 t342 t343))) else (some false))) else (laws_FnWeights.j1 kj15 t344 t347 t348 t369 t372 t373 t340 t341 t342 t343)) = some r := by rw [if_neg (show ¬ (false = true) by decide)] at H; exact H
          clear H
          have H := H1
          clear H1
          have HC63 := Aside0.mk H
          clear H
          go_upto_if 143 with (fail)
          go_cut [] (fun wc => ∃ (kq : Nat), Aside0 (laws_FnWeights.j1 kq t344 t347 t348 t369 t372 t373 t340 t341 t342 t343 = some r) ∧ Aside0 (kq ≤ kj15) ∧ Aside0 (Kd.R k71 71 wc w.heap.size (fun _ => True) (.slice Ao52 t369.length co52) t369) ∧ Aside0 (wc.heap[gb345]? = some (.cells #[.int .i64 t340, .int .i64 t341] 54 (0, 0))) ∧ Aside0 (wc.heap[gb346]? = some (.cells #[.int .i64 t342, .int .i64 t343] 56 (0, 0))) ∧ Aside0 (wc.heap[gb355]? = some (.cells #[.int .i64 t351, .int .i64 t352] 54 (0, 0))) ∧ Aside0 (wc.heap[gb356]? = some (.cells #[.int .i64 t353, .int .i64 t354] 56 (0, 0))) ∧ Aside0 (wc.heap[gb364]? = some (.cells #[.int .i64 t361, .int .i64 t362] 54 (0, 0))) ∧ Aside0 (Below w.heap.size w wc))
          case first => as_aux_lemma =>
            have H := HC63.out
            clear HC63
            by_cases c64 : t366 = 0
            · rw [if_pos c64] at H
              have c64b0 : (t366 == 0) = true := beq_iff_eq.mpr c64
              have c64b1 : (t366 != 0) = false := bne_eq_false_iff_eq.mpr c64
              clear c64
              (first | rw [c64b0] | (simp only [i64_w, i32_w]; rw [c64b0]) | skip)
              replace H := Option.bind_eq_some_iff.mp H
              obtain ⟨⟨t376, t377⟩, A650, H⟩ := H
              replace H : (if t377 = 0 then (if (wrap64 (t365 * t376)) > (wrap64 (100 * t363)) then (some false) else (if (wrap64 ((wrap64 (t365 + 1)) * t376)) ≤ (wrap64 (100 * t363)) then (some false) else (laws_FnWeights.j1 kj15 t344 t347 t348 t369 t372 t373 t340 t341 t342 t343))) else (some false)) = some r := H
              have A65 := Aside0.mk A650
              clear A650
              by_cases c66 : t377 = 0
              · rw [if_pos c66] at H
                have c66b0 : (t377 == 0) = true := beq_iff_eq.mpr c66
                have c66b1 : (t377 != 0) = false := bne_eq_false_iff_eq.mpr c66
                clear c66
                by_cases c67 : (wrap64 (t365 * t376)) > (wrap64 (100 * t363))
                · rw [if_pos c67] at H
                  have c67b0 : decide ((wrap64 (100 * t363)) < (wrap64 (t365 * t376))) = true := decide_eq_true c67
                  clear c67
                  exact absurd ((Option.some.inj H).trans hT.out) (by decide)
                · rw [if_neg c67] at H
                  have c67b0 : decide ((wrap64 (100 * t363)) < (wrap64 (t365 * t376))) = false := decide_eq_false c67
                  clear c67
                  by_cases c68 : (wrap64 ((wrap64 (t365 + 1)) * t376)) ≤ (wrap64 (100 * t363))
                  · rw [if_pos c68] at H
                    have c68b0 : decide ((wrap64 ((wrap64 (t365 + 1)) * t376)) ≤ (wrap64 (100 * t363))) = true := decide_eq_true c68
                    clear c68
                    exact absurd ((Option.some.inj H).trans hT.out) (by decide)
                  · rw [if_neg c68] at H
                    have c68b0 : decide ((wrap64 ((wrap64 (t365 + 1)) * t376)) ≤ (wrap64 (100 * t363))) = false := decide_eq_false c68
                    clear c68
                    have H' := Aside0.mk H
                    clear H
                    have hnb69 := NB364_345.out
                    have hnc69 := NB345_364.out
                    have hnb70 := NB364_346.out
                    have hnc70 := NB346_364.out
                    have hnb71 := NB364_355.out
                    have hnc71 := NB355_364.out
                    have hnb72 := NB364_356.out
                    have hnc72 := NB356_364.out
                    have hcz73_0 : wc.cell? ⟨gb364, 0, none⟩ = some (.int .i64 t361) := (blk_cell BK364.out 0).trans rfl
                    have hcz73_1 : wc.cell? ⟨gb364, 1, none⟩ = some (.int .i64 t362) := (blk_cell BK364.out 1).trans rfl
                    have hfz73_0 := blk_frozen BK364.out 0
                    have hfz73_1 := blk_frozen BK364.out 1
                    go_wp2_with (first | ((with_reducible refine gate_callee (f := 51) rfl ?_); refine goesL_ (some 146) rfl rfl Try.func51 (by kernel_rfl) rfl #[.agg #[.int .i64 t361, .int .i64 t362]] rfl (by (try simp only [List.map_toArray, List.map_cons, List.map_nil]); first | done | rfl | (simp only [List.length_drop, List.length_take]; rfl)) ?_; (with_reducible refine (impl_PaperThickness.calls t361 t362 t376 t377 _ A65.out).mono ?_); rintro e w74 ⟨rfl, hb⟩; refine ⟨_, rfl, ?_⟩; have n0_ := Aside0.mk (Kd.R_below (by (with_reducible repeat (first | apply Kd.R_alloc | apply Kd.R_drewN | apply Kd.R_drew)); exact HO_22.out) hb); have n1_ := Aside0.mk (blk_below (g := gb345) (o := .cells #[.int .i64 t340, .int .i64 t341] 54 (0, 0)) (by (with_reducible repeat (first | refine blk_drewN ?_ _ | refine blk_drew ?_ | refine blk_alloc ?_ _)); exact BK345.out) hb); have n2_ := Aside0.mk (blk_below (g := gb346) (o := .cells #[.int .i64 t342, .int .i64 t343] 56 (0, 0)) (by (with_reducible repeat (first | refine blk_drewN ?_ _ | refine blk_drew ?_ | refine blk_alloc ?_ _)); exact BK346.out) hb); have n3_ := Aside0.mk (blk_below (g := gb355) (o := .cells #[.int .i64 t351, .int .i64 t352] 54 (0, 0)) (by (with_reducible repeat (first | refine blk_drewN ?_ _ | refine blk_drew ?_ | refine blk_alloc ?_ _)); exact BK355.out) hb); have n4_ := Aside0.mk (blk_below (g := gb356) (o := .cells #[.int .i64 t353, .int .i64 t354] 56 (0, 0)) (by (with_reducible repeat (first | refine blk_drewN ?_ _ | refine blk_drew ?_ | refine blk_alloc ?_ _)); exact BK356.out) hb); have n5_ := Aside0.mk (blk_below (g := gb364) (o := .cells #[.int .i64 t361, .int .i64 t362] 54 (0, 0)) (by (with_reducible repeat (first | refine blk_drewN ?_ _ | refine blk_drew ?_ | refine blk_alloc ?_ _)); exact BK364.out) hb); have n6_ := Aside0.mk (below_step (by repeat (first | (with_reducible first | exact HB.out | apply below_alloc | apply pw_below_drewN | apply below_drew1 | refine below_set ?_ GE345.out | refine below_set ?_ GE346.out | refine below_set ?_ GE355.out | refine below_set ?_ GE356.out | refine below_set ?_ GE364.out) | exact HB.out)) hb); clear HO_22; clear BK345; clear BK346; clear BK355; clear BK356; clear BK364; clear HB; have HO_22 := n0_; have BK345 := n1_; have BK346 := n2_; have BK355 := n3_; have BK356 := n4_; have BK364 := n5_; have HB := n6_; clear n0_ n1_ n2_ n3_ n4_ n5_ n6_; (try clear hb); (try clear hb2); (try clear hk); (try clear hi)))
                    go_meet
                    case rel => exact ⟨_, H', ⟨by have := HJ15.out; first | omega | exact Nat.le_refl _⟩, ⟨by (with_reducible repeat (first | apply Kd.R_alloc | apply Kd.R_drewN | apply Kd.R_drew)); exact HO_22.out⟩, ⟨by (with_reducible repeat (first | refine blk_drewN ?_ _ | refine blk_drew ?_ | refine blk_alloc ?_ _)); exact BK345.out⟩, ⟨by (with_reducible repeat (first | refine blk_drewN ?_ _ | refine blk_drew ?_ | refine blk_alloc ?_ _)); exact BK346.out⟩, ⟨by (with_reducible repeat (first | refine blk_drewN ?_ _ | refine blk_drew ?_ | refine blk_alloc ?_ _)); exact BK355.out⟩, ⟨by (with_reducible repeat (first | refine blk_drewN ?_ _ | refine blk_drew ?_ | refine blk_alloc ?_ _)); exact BK356.out⟩, ⟨by (with_reducible repeat (first | refine blk_drewN ?_ _ | refine blk_drew ?_ | refine blk_alloc ?_ _)); exact BK364.out⟩, ⟨by repeat (first | (with_reducible first | exact HB.out | apply below_alloc | apply pw_below_drewN | apply below_drew1 | refine below_set ?_ GE345.out | refine below_set ?_ GE346.out | refine below_set ?_ GE355.out | refine below_set ?_ GE356.out | refine below_set ?_ GE364.out) | exact HB.out)⟩⟩
              · rw [if_neg c66] at H
                have c66b0 : (t377 == 0) = false := beq_eq_false_iff_ne.mpr c66
                have c66b1 : (t377 != 0) = true := bne_iff_ne.mpr c66
                exact absurd ((Option.some.inj H).trans hT.out) (by decide)
            · rw [if_neg c64] at H
              have c64b0 : (t366 == 0) = false := beq_eq_false_iff_ne.mpr c64
              have c64b1 : (t366 != 0) = true := bne_iff_ne.mpr c64
              (first | rw [c64b0] | (simp only [i64_w, i32_w]; rw [c64b0]) | skip)
              have H' := Aside0.mk H
              clear H
              go_wp2
              go_meet
              case rel => exact ⟨_, H', ⟨by have := HJ15.out; first | omega | exact Nat.le_refl _⟩, ⟨by (with_reducible repeat (first | apply Kd.R_alloc | apply Kd.R_drewN | apply Kd.R_drew)); exact HO_22.out⟩, ⟨by (with_reducible repeat (first | refine blk_drewN ?_ _ | refine blk_drew ?_ | refine blk_alloc ?_ _)); exact BK345.out⟩, ⟨by (with_reducible repeat (first | refine blk_drewN ?_ _ | refine blk_drew ?_ | refine blk_alloc ?_ _)); exact BK346.out⟩, ⟨by (with_reducible repeat (first | refine blk_drewN ?_ _ | refine blk_drew ?_ | refine blk_alloc ?_ _)); exact BK355.out⟩, ⟨by (with_reducible repeat (first | refine blk_drewN ?_ _ | refine blk_drew ?_ | refine blk_alloc ?_ _)); exact BK356.out⟩, ⟨by (with_reducible repeat (first | refine blk_drewN ?_ _ | refine blk_drew ?_ | refine blk_alloc ?_ _)); exact BK364.out⟩, ⟨by repeat (first | (with_reducible first | exact HB.out | apply below_alloc | apply pw_below_drewN | apply below_drew1 | refine below_set ?_ GE345.out | refine below_set ?_ GE346.out | refine below_set ?_ GE355.out | refine below_set ?_ GE356.out | refine below_set ?_ GE364.out) | exact HB.out)⟩⟩
          case rest => as_aux_lemma =>
            clear HC63
            try clear c2
            try clear p2
            try clear c3
            try clear c4
            try clear c5
            try clear c6
            try clear p6
            try clear c7
            try clear c8
            try clear c20
            try clear c30
            try clear c31
            try clear c32
            try clear c34
            try clear c35
            try clear c38
            try clear c39
            try clear c40
            try clear c41
            try clear c42
            try clear c43
            try clear c44
            try clear c45
            try clear c46
            try clear c47
            try clear c48
            try clear c49
            try clear c50
            try clear c51
            try clear c55
            try clear c55b0
            try clear c55b1
            try clear c56
            try clear c56b0
            try clear c56b1
            try clear c57
            try clear c57b0
            try clear c57b1
            try clear c58
            try clear c58b0
            try clear c58b1
            try clear c59
            try clear c59b0
            try clear c59b1
            try clear c60
            try clear c60b0
            try clear c60b1
            try clear c61
            try clear c61b0
            try clear c61b1
            try clear c62
            try clear c64
            try clear c64b0
            try clear c64b1
            try clear p64
            try clear c66
            try clear c66b0
            try clear c66b1
            try clear c67
            try clear c67b0
            try clear c68
            try clear c68b0
            try clear c69
            try clear c70
            try clear c71
            try clear c72
            try clear hcz21_0
            try clear hcz21_1
            try clear hcz22_0
            try clear hcz22_1
            try clear hcz24_0
            try clear hcz24_1
            try clear hcz25_0
            try clear hcz25_1
            try clear hcz33_0
            try clear hcz33_1
            try clear hcz36_0
            try clear hcz36_1
            try clear hcz38_0
            try clear hcz38_1
            try clear hcz39_0
            try clear hcz39_1
            try clear hcz47_0
            try clear hcz47_1
            try clear hcz49_0
            try clear hcz49_1
            try clear hcz73_0
            try clear hcz73_1
            try clear hfz21_0
            try clear hfz21_1
            try clear hfz22_0
            try clear hfz22_1
            try clear hfz24_0
            try clear hfz24_1
            try clear hfz25_0
            try clear hfz25_1
            try clear hfz33_0
            try clear hfz33_1
            try clear hfz36_0
            try clear hfz36_1
            try clear hfz38_0
            try clear hfz38_1
            try clear hfz39_0
            try clear hfz39_1
            try clear hfz47_0
            try clear hfz47_1
            try clear hfz49_0
            try clear hfz49_1
            try clear hfz73_0
            try clear hfz73_1
            try clear p2
            obtain ⟨kq, HA, HJ62, HO_22, BK345, BK346, BK355, BK356, BK364, HB⟩ := hcut
            cases kq with
            | zero => exact absurd HA.out (by simp [laws_FnWeights.j1])
            | succ kj62 =>
              have H := HA.out
              clear HA
              simp only [laws_FnWeights.j1] at H
              by_cases c75 : t373 = 0
              · rw [if_pos c75] at H
                have c75b0 : (t373 == 0) = true := beq_iff_eq.mpr c75
                have c75b1 : (t373 != 0) = false := bne_eq_false_iff_eq.mpr c75
                clear c75
                have H' := Aside0.mk H
                clear H
                go_wp2
                go_loopg [29, 30] kj62 (fun kq v29 v30 w' => ∃ (x29_3 : Int) (x30_3 : Int), v29 = .int .i64 x29_3 ∧ v30 = .int .i64 x30_3 ∧ Aside0 (laws_FnWeights.l0 kq t344 t347 t348 t369 t372 x29_3 x30_3 t340 t341 t342 t343 = some r) ∧ Aside0 (kq ≤ kj62) ∧ Aside0 (Kd.R k71 71 w' w.heap.size (fun _ => True) (.slice Ao52 t369.length co52) t369) ∧ Aside0 (w'.heap[gb345]? = some (.cells #[.int .i64 t340, .int .i64 t341] 54 (0, 0))) ∧ Aside0 (w'.heap[gb346]? = some (.cells #[.int .i64 t342, .int .i64 t343] 56 (0, 0))) ∧ Aside0 (w'.heap[gb355]? = some (.cells #[.int .i64 t351, .int .i64 t352] 54 (0, 0))) ∧ Aside0 (w'.heap[gb356]? = some (.cells #[.int .i64 t353, .int .i64 t354] 56 (0, 0))) ∧ Aside0 (w'.heap[gb364]? = some (.cells #[.int .i64 t361, .int .i64 t362] 54 (0, 0))) ∧ Aside0 (Below w.heap.size w w'))
                case atStart => exact ⟨(0), (0), (by first | rfl | (simp; done) | (simp [*]; done)), (by first | rfl | (simp; done) | (simp [*]; done)), H', ⟨Nat.le_refl _⟩, ⟨by (with_reducible repeat (first | apply Kd.R_alloc | apply Kd.R_drewN | apply Kd.R_drew)); exact HO_22.out⟩, ⟨by (with_reducible repeat (first | refine blk_drewN ?_ _ | refine blk_drew ?_ | refine blk_alloc ?_ _)); exact BK345.out⟩, ⟨by (with_reducible repeat (first | refine blk_drewN ?_ _ | refine blk_drew ?_ | refine blk_alloc ?_ _)); exact BK346.out⟩, ⟨by (with_reducible repeat (first | refine blk_drewN ?_ _ | refine blk_drew ?_ | refine blk_alloc ?_ _)); exact BK355.out⟩, ⟨by (with_reducible repeat (first | refine blk_drewN ?_ _ | refine blk_drew ?_ | refine blk_alloc ?_ _)); exact BK356.out⟩, ⟨by (with_reducible repeat (first | refine blk_drewN ?_ _ | refine blk_drew ?_ | refine blk_alloc ?_ _)); exact BK364.out⟩, ⟨by repeat (first | (with_reducible first | exact HB.out | apply below_alloc | apply pw_below_drewN | apply below_drew1 | refine below_set ?_ GE345.out | refine below_set ?_ GE346.out | refine below_set ?_ GE355.out | refine below_set ?_ GE356.out | refine below_set ?_ GE364.out) | exact HB.out)⟩⟩
                case round =>
                  clear H'
                  try clear c2
                  try clear p2
                  try clear c3
                  try clear c4
                  try clear c5
                  try clear c6
                  try clear p6
                  try clear c7
                  try clear c8
                  try clear c20
                  try clear c30
                  try clear c31
                  try clear c32
                  try clear c34
                  try clear c35
                  try clear c38
                  try clear c39
                  try clear c40
                  try clear c41
                  try clear c42
                  try clear c43
                  try clear c44
                  try clear c45
                  try clear c46
                  try clear c47
                  try clear c48
                  try clear c49
                  try clear c50
                  try clear c51
                  try clear c55
                  try clear c55b0
                  try clear c55b1
                  try clear c56
                  try clear c56b0
                  try clear c56b1
                  try clear c57
                  try clear c57b0
                  try clear c57b1
                  try clear c58
                  try clear c58b0
                  try clear c58b1
                  try clear c59
                  try clear c59b0
                  try clear c59b1
                  try clear c60
                  try clear c60b0
                  try clear c60b1
                  try clear c61
                  try clear c61b0
                  try clear c61b1
                  try clear c62
                  try clear c64
                  try clear c64b0
                  try clear c64b1
                  try clear p64
                  try clear c66
                  try clear c66b0
                  try clear c66b1
                  try clear c67
                  try clear c67b0
                  try clear c68
                  try clear c68b0
                  try clear c69
                  try clear c70
                  try clear c71
                  try clear c72
                  try clear c75
                  try clear c75b0
                  try clear c75b1
                  try clear hcz21_0
                  try clear hcz21_1
                  try clear hcz22_0
                  try clear hcz22_1
                  try clear hcz24_0
                  try clear hcz24_1
                  try clear hcz25_0
                  try clear hcz25_1
                  try clear hcz33_0
                  try clear hcz33_1
                  try clear hcz36_0
                  try clear hcz36_1
                  try clear hcz38_0
                  try clear hcz38_1
                  try clear hcz39_0
                  try clear hcz39_1
                  try clear hcz47_0
                  try clear hcz47_1
                  try clear hcz49_0
                  try clear hcz49_1
                  try clear hcz73_0
                  try clear hcz73_1
                  try clear hfz21_0
                  try clear hfz21_1
                  try clear hfz22_0
                  try clear hfz22_1
                  try clear hfz24_0
                  try clear hfz24_1
                  try clear hfz25_0
                  try clear hfz25_1
                  try clear hfz33_0
                  try clear hfz33_1
                  try clear hfz36_0
                  try clear hfz36_1
                  try clear hfz38_0
                  try clear hfz38_1
                  try clear hfz39_0
                  try clear hfz39_1
                  try clear hfz47_0
                  try clear hfz47_1
                  try clear hfz49_0
                  try clear hfz49_1
                  try clear hfz73_0
                  try clear hfz73_1
                  try clear p2
                  try clear p6
                  try clear p64
                  obtain ⟨x29_3, x30_3, rfl, rfl, HA, HK3, HO_22, BK345, BK346, BK355, BK356, BK364, HB⟩ := hrel
                  cases gk with
                  | zero => exact absurd HA.out (by simp [laws_FnWeights.l0])
                  | succ k3 =>
                    have H := HA.out
                    clear HA
                    simp only [laws_FnWeights.l0] at H
                    by_cases c76 : x30_3 < (t369.length : Int)
                    · rw [if_pos c76] at H
                      have c76b0 : decide (x30_3 < (t369.length : Int)) = true := decide_eq_true c76
                      clear c76
                      by_cases c77 : 0 ≤ x30_3
                      · rw [if_pos c77] at H
                        have c77b0 : decide (0 ≤ x30_3) = true := decide_eq_true c77
                        clear c77
                        replace H := Option.bind_eq_some_iff.mp H
                        obtain ⟨⟨t379, t380⟩, A780, H⟩ := H
                        replace H : ((impl_BlockThickness.f ((rd_T71 t369 x30_3).f0) t379).bind fun bt382 => (if t380 = 0 then (if bt382.2 = 0 then (laws_FnWeights.l0 k3 t344 t347 t348 t369 t372 (wrap64 (x29_3 + bt382.1)) (wrap64 (x30_3 + 1)) t340 t341 t342 t343) else (some false)) else (some false))) = some r := H
                        have A78 := Aside0.mk A780
                        clear A780
                        replace H := Option.bind_eq_some_iff.mp H
                        obtain ⟨⟨t382, t383⟩, A790, H⟩ := H
                        replace H : (if t380 = 0 then (if t383 = 0 then (laws_FnWeights.l0 k3 t344 t347 t348 t369 t372 (wrap64 (x29_3 + t382)) (wrap64 (x30_3 + 1)) t340 t341 t342 t343) else (some false)) else (some false)) = some r := H
                        have A79 := Aside0.mk A790
                        clear A790
                        by_cases c80 : t380 = 0
                        · rw [if_pos c80] at H
                          have c80b0 : (t380 == 0) = true := beq_iff_eq.mpr c80
                          have c80b1 : (t380 != 0) = false := bne_eq_false_iff_eq.mpr c80
                          clear c80
                          by_cases c81 : t383 = 0
                          · rw [if_pos c81] at H
                            have c81b0 : (t383 == 0) = true := beq_iff_eq.mpr c81
                            have c81b1 : (t383 != 0) = false := bne_eq_false_iff_eq.mpr c81
                            clear c81
                            have H' := Aside0.mk H
                            clear H
                            have p378 : 0 ≤ (x30_3 : Int) := of_decide_eq_true (by first | (with_reducible assumption) | assumption)
                            have q378 : x30_3 < (t369.length : Int) := of_decide_eq_true (by first | (with_reducible assumption) | assumption)
                            obtain ⟨ad378, e378, hx378_0, hx378_1, hx378_2⟩ := at_T71 (Kd.R_reads' HO_22.out).2.2 x30_3 p378 q378
                            cases e378
                            replace p378 := eq_true p378
                            replace q378 := eq_true q378
                            go_wp2_with (first | ((with_reducible refine gate_callee (f := 51) rfl ?_); refine goesL_ (some 182) rfl rfl Try.func51 (by kernel_rfl) rfl #[.agg #[.int .i64 ((rd_T71 t369 x30_3).f1.f0), .int .i64 ((rd_T71 t369 x30_3).f1.f1)]] rfl (by (try simp only [List.map_toArray, List.map_cons, List.map_nil]); first | done | rfl | (simp only [List.length_drop, List.length_take]; rfl)) ?_; (with_reducible refine (impl_PaperThickness.calls ((rd_T71 t369 x30_3).f1.f0) ((rd_T71 t369 x30_3).f1.f1) t379 t380 _ A78.out).mono ?_); rintro e w82 ⟨rfl, hb⟩; refine ⟨_, rfl, ?_⟩; have n0_ := Aside0.mk (Kd.R_below (by (with_reducible repeat (first | apply Kd.R_alloc | apply Kd.R_drewN | apply Kd.R_drew)); exact HO_22.out) hb); have n1_ := Aside0.mk (blk_below (g := gb345) (o := .cells #[.int .i64 t340, .int .i64 t341] 54 (0, 0)) (by (with_reducible repeat (first | refine blk_drewN ?_ _ | refine blk_drew ?_ | refine blk_alloc ?_ _)); exact BK345.out) hb); have n2_ := Aside0.mk (blk_below (g := gb346) (o := .cells #[.int .i64 t342, .int .i64 t343] 56 (0, 0)) (by (with_reducible repeat (first | refine blk_drewN ?_ _ | refine blk_drew ?_ | refine blk_alloc ?_ _)); exact BK346.out) hb); have n3_ := Aside0.mk (blk_below (g := gb355) (o := .cells #[.int .i64 t351, .int .i64 t352] 54 (0, 0)) (by (with_reducible repeat (first | refine blk_drewN ?_ _ | refine blk_drew ?_ | refine blk_alloc ?_ _)); exact BK355.out) hb); have n4_ := Aside0.mk (blk_below (g := gb356) (o := .cells #[.int .i64 t353, .int .i64 t354] 56 (0, 0)) (by (with_reducible repeat (first | refine blk_drewN ?_ _ | refine blk_drew ?_ | refine blk_alloc ?_ _)); exact BK356.out) hb); have n5_ := Aside0.mk (blk_below (g := gb364) (o := .cells #[.int .i64 t361, .int .i64 t362] 54 (0, 0)) (by (with_reducible repeat (first | refine blk_drewN ?_ _ | refine blk_drew ?_ | refine blk_alloc ?_ _)); exact BK364.out) hb); have n6_ := Aside0.mk (below_step (by repeat (first | (with_reducible first | exact HB.out | apply below_alloc | apply pw_below_drewN | apply below_drew1 | refine below_set ?_ GE345.out | refine below_set ?_ GE346.out | refine below_set ?_ GE355.out | refine below_set ?_ GE356.out | refine below_set ?_ GE364.out) | exact HB.out)) hb); clear HO_22; clear BK345; clear BK346; clear BK355; clear BK356; clear BK364; clear HB; have HO_22 := n0_; have BK345 := n1_; have BK346 := n2_; have BK355 := n3_; have BK356 := n4_; have BK364 := n5_; have HB := n6_; clear n0_ n1_ n2_ n3_ n4_ n5_ n6_; (try clear hb); (try clear hb2); (try clear hk); (try clear hi); have p381 : 0 ≤ (x30_3 : Int) := of_decide_eq_true (by first | (with_reducible assumption) | assumption); have q381 : x30_3 < (t369.length : Int) := of_decide_eq_true (by first | (with_reducible assumption) | assumption); obtain ⟨ad381, e381, hx381_0, hx381_1, hx381_2⟩ := at_T71 (Kd.R_reads' HO_22.out).2.2 x30_3 p381 q381; obtain rfl : ad378 = ad381 := (by injection e381); replace p381 := eq_true p381; replace q381 := eq_true q381) | ((with_reducible refine gate_callee (f := 52) rfl ?_); refine goesL_ (some 192) rfl rfl Try.func52 (by kernel_rfl) rfl #[.int .i64 ((rd_T71 t369 x30_3).f0), .int .i64 t379] rfl (by (try simp only [List.map_toArray, List.map_cons, List.map_nil]); first | done | rfl | (simp only [List.length_drop, List.length_take]; rfl)) ?_; (with_reducible refine (impl_BlockThickness.calls ((rd_T71 t369 x30_3).f0) t379 t382 t383 _ A79.out).mono ?_); rintro e w' ⟨rfl, ⟨nd, rfl⟩⟩; refine ⟨_, rfl, ?_⟩))
                            go_roundg k3
                            case measure => have := HJ15.out; have := HJ62.out; have := HK3.out; omega
                            case rel => exact ⟨(wrap64 (x29_3 + t382)), (wrap64 (x30_3 + 1)), (by first | rfl | (simp; done) | (simp [*]; done)), (by first | rfl | (simp; done) | (simp [*]; done)), H', ⟨by have := HJ15.out; have := HJ62.out; have := HK3.out; omega⟩, ⟨by (with_reducible repeat (first | apply Kd.R_alloc | apply Kd.R_drewN | apply Kd.R_drew)); exact HO_22.out⟩, ⟨by (with_reducible repeat (first | refine blk_drewN ?_ _ | refine blk_drew ?_ | refine blk_alloc ?_ _)); exact BK345.out⟩, ⟨by (with_reducible repeat (first | refine blk_drewN ?_ _ | refine blk_drew ?_ | refine blk_alloc ?_ _)); exact BK346.out⟩, ⟨by (with_reducible repeat (first | refine blk_drewN ?_ _ | refine blk_drew ?_ | refine blk_alloc ?_ _)); exact BK355.out⟩, ⟨by (with_reducible repeat (first | refine blk_drewN ?_ _ | refine blk_drew ?_ | refine blk_alloc ?_ _)); exact BK356.out⟩, ⟨by (with_reducible repeat (first | refine blk_drewN ?_ _ | refine blk_drew ?_ | refine blk_alloc ?_ _)); exact BK364.out⟩, ⟨by repeat (first | (with_reducible first | exact HB.out | apply below_alloc | apply pw_below_drewN | apply below_drew1 | refine below_set ?_ GE345.out | refine below_set ?_ GE346.out | refine below_set ?_ GE355.out | refine below_set ?_ GE356.out | refine below_set ?_ GE364.out) | exact HB.out)⟩⟩
                          · rw [if_neg c81] at H
                            have c81b0 : (t383 == 0) = false := beq_eq_false_iff_ne.mpr c81
                            have c81b1 : (t383 != 0) = true := bne_iff_ne.mpr c81
                            exact absurd ((Option.some.inj H).trans hT.out) (by decide)
                        · rw [if_neg c80] at H
                          have c80b0 : (t380 == 0) = false := beq_eq_false_iff_ne.mpr c80
                          have c80b1 : (t380 != 0) = true := bne_iff_ne.mpr c80
                          exact absurd ((Option.some.inj H).trans hT.out) (by decide)
                      · rw [if_neg c77] at H
                        exact absurd H (by simp)
                    · rw [if_neg c76] at H
                      have c76b0 : decide (x30_3 < (t369.length : Int)) = false := decide_eq_false c76
                      clear c76
                      by_cases c83 : (wrap64 (100 * t372)) < x29_3
                      · rw [if_pos c83] at H
                        have c83b0 : decide ((wrap64 (100 * t372)) < x29_3) = true := decide_eq_true c83
                        clear c83
                        exact absurd ((Option.some.inj H).trans hT.out) (by decide)
                      · rw [if_neg c83] at H
                        have c83b0 : decide ((wrap64 (100 * t372)) < x29_3) = false := decide_eq_false c83
                        clear c83
                        by_cases c84 : (wrap64 (100 * t372)) ≥ (wrap64 (x29_3 + 100))
                        · rw [if_pos c84] at H
                          have c84b0 : decide ((wrap64 (x29_3 + 100)) ≤ (wrap64 (100 * t372))) = true := decide_eq_true c84
                          clear c84
                          exact absurd ((Option.some.inj H).trans hT.out) (by decide)
                        · rw [if_neg c84] at H
                          have c84b0 : decide ((wrap64 (x29_3 + 100)) ≤ (wrap64 (100 * t372))) = false := decide_eq_false c84
                          clear c84
                          by_cases c85 : t348 = 0
                          · rw [if_pos c85] at H
                            have c85b0 : (t348 == 0) = true := beq_iff_eq.mpr c85
                            have c85b1 : (t348 != 0) = false := bne_eq_false_iff_eq.mpr c85
                            clear c85
                            by_cases c86 : (wrap64 (100000000 * t347)) ≥ (wrap64 ((wrap64 ((wrap64 (t344 * t342)) * t343)) * t340))
                            · rw [if_pos c86] at H
                              have c86b0 : decide ((wrap64 ((wrap64 ((wrap64 (t344 * t342)) * t343)) * t340)) ≤ (wrap64 (100000000 * t347))) = true := decide_eq_true c86
                              clear c86
                              obtain rfl := Option.some.inj H
                              have hnb87 := NB346_345.out
                              have hnc87 := NB345_346.out
                              have hnb88 := NB346_355.out
                              have hnc88 := NB355_346.out
                              have hnb89 := NB346_356.out
                              have hnc89 := NB356_346.out
                              have hnb90 := NB346_364.out
                              have hnc90 := NB364_346.out
                              have hcz91_0 : wr.cell? ⟨gb346, 0, none⟩ = some (.int .i64 t342) := (blk_cell BK346.out 0).trans rfl
                              have hcz91_1 : wr.cell? ⟨gb346, 1, none⟩ = some (.int .i64 t343) := (blk_cell BK346.out 1).trans rfl
                              have hfz91_0 := blk_frozen BK346.out 0
                              have hfz91_1 := blk_frozen BK346.out 1
                              have hnb92 := NB345_355.out
                              have hnc92 := NB355_345.out
                              have hnb93 := NB345_356.out
                              have hnc93 := NB356_345.out
                              have hnb94 := NB345_364.out
                              have hnc94 := NB364_345.out
                              have hcz95_0 : wr.cell? ⟨gb345, 0, none⟩ = some (.int .i64 t340) := (blk_cell BK345.out 0).trans rfl
                              have hcz95_1 : wr.cell? ⟨gb345, 1, none⟩ = some (.int .i64 t341) := (blk_cell BK345.out 1).trans rfl
                              have hfz95_0 := blk_frozen BK345.out 0
                              have hfz95_1 := blk_frozen BK345.out 1
                              go_wp2
                              go_ret
                              exact ⟨by first | rfl | (simp [errW_none, errW_some] <;> rfl) | (simp [*, errW_none, errW_some] <;> rfl), by repeat (first | (with_reducible first | exact HB.out | apply below_alloc | apply pw_below_drewN | apply below_drew1 | refine below_set ?_ GE345.out | refine below_set ?_ GE346.out | refine below_set ?_ GE355.out | refine below_set ?_ GE356.out | refine below_set ?_ GE364.out) | exact HB.out)⟩
                            · rw [if_neg c86] at H
                              have c86b0 : decide ((wrap64 ((wrap64 ((wrap64 (t344 * t342)) * t343)) * t340)) ≤ (wrap64 (100000000 * t347))) = false := decide_eq_false c86
                              clear c86
                              exact absurd ((Option.some.inj H).trans hT.out) (by decide)
                          · rw [if_neg c85] at H
                            have c85b0 : (t348 == 0) = false := beq_eq_false_iff_ne.mpr c85
                            have c85b1 : (t348 != 0) = true := bne_iff_ne.mpr c85
                            obtain rfl := Option.some.inj H
                            have hnb96 := NB346_345.out
                            have hnc96 := NB345_346.out
                            have hnb97 := NB346_355.out
                            have hnc97 := NB355_346.out
                            have hnb98 := NB346_356.out
                            have hnc98 := NB356_346.out
                            have hnb99 := NB346_364.out
                            have hnc99 := NB364_346.out
                            have hcz100_0 : wr.cell? ⟨gb346, 0, none⟩ = some (.int .i64 t342) := (blk_cell BK346.out 0).trans rfl
                            have hcz100_1 : wr.cell? ⟨gb346, 1, none⟩ = some (.int .i64 t343) := (blk_cell BK346.out 1).trans rfl
                            have hfz100_0 := blk_frozen BK346.out 0
                            have hfz100_1 := blk_frozen BK346.out 1
                            go_wp2
                            go_ret
                            exact ⟨by first | rfl | (simp [errW_none, errW_some] <;> rfl) | (simp [*, errW_none, errW_some] <;> rfl), by repeat (first | (with_reducible first | exact HB.out | apply below_alloc | apply pw_below_drewN | apply below_drew1 | refine below_set ?_ GE345.out | refine below_set ?_ GE346.out | refine below_set ?_ GE355.out | refine below_set ?_ GE356.out | refine below_set ?_ GE364.out) | exact HB.out)⟩
              · rw [if_neg c75] at H
                have c75b0 : (t373 == 0) = false := beq_eq_false_iff_ne.mpr c75
                have c75b1 : (t373 != 0) = true := bne_iff_ne.mpr c75
                by_cases c101 : t348 = 0
                · rw [if_pos c101] at H
                  have c101b0 : (t348 == 0) = true := beq_iff_eq.mpr c101
                  have c101b1 : (t348 != 0) = false := bne_eq_false_iff_eq.mpr c101
                  clear c101
                  by_cases c102 : (wrap64 (100000000 * t347)) ≥ (wrap64 ((wrap64 ((wrap64 (t344 * t342)) * t343)) * t340))
                  · rw [if_pos c102] at H
                    have c102b0 : decide ((wrap64 ((wrap64 ((wrap64 (t344 * t342)) * t343)) * t340)) ≤ (wrap64 (100000000 * t347))) = true := decide_eq_true c102
                    clear c102
                    obtain rfl := Option.some.inj H
                    have hnb103 := NB346_345.out
                    have hnc103 := NB345_346.out
                    have hnb104 := NB346_355.out
                    have hnc104 := NB355_346.out
                    have hnb105 := NB346_356.out
                    have hnc105 := NB356_346.out
                    have hnb106 := NB346_364.out
                    have hnc106 := NB364_346.out
                    have hcz107_0 : wc.cell? ⟨gb346, 0, none⟩ = some (.int .i64 t342) := (blk_cell BK346.out 0).trans rfl
                    have hcz107_1 : wc.cell? ⟨gb346, 1, none⟩ = some (.int .i64 t343) := (blk_cell BK346.out 1).trans rfl
                    have hfz107_0 := blk_frozen BK346.out 0
                    have hfz107_1 := blk_frozen BK346.out 1
                    have hnb108 := NB345_355.out
                    have hnc108 := NB355_345.out
                    have hnb109 := NB345_356.out
                    have hnc109 := NB356_345.out
                    have hnb110 := NB345_364.out
                    have hnc110 := NB364_345.out
                    have hcz111_0 : wc.cell? ⟨gb345, 0, none⟩ = some (.int .i64 t340) := (blk_cell BK345.out 0).trans rfl
                    have hcz111_1 : wc.cell? ⟨gb345, 1, none⟩ = some (.int .i64 t341) := (blk_cell BK345.out 1).trans rfl
                    have hfz111_0 := blk_frozen BK345.out 0
                    have hfz111_1 := blk_frozen BK345.out 1
                    go_wp2
                    go_ret
                    exact ⟨by first | rfl | (simp [errW_none, errW_some] <;> rfl) | (simp [*, errW_none, errW_some] <;> rfl), by repeat (first | (with_reducible first | exact HB.out | apply below_alloc | apply pw_below_drewN | apply below_drew1 | refine below_set ?_ GE345.out | refine below_set ?_ GE346.out | refine below_set ?_ GE355.out | refine below_set ?_ GE356.out | refine below_set ?_ GE364.out) | exact HB.out)⟩
                  · rw [if_neg c102] at H
                    have c102b0 : decide ((wrap64 ((wrap64 ((wrap64 (t344 * t342)) * t343)) * t340)) ≤ (wrap64 (100000000 * t347))) = false := decide_eq_false c102
                    clear c102
                    exact absurd ((Option.some.inj H).trans hT.out) (by decide)
                · rw [if_neg c101] at H
                  have c101b0 : (t348 == 0) = false := beq_eq_false_iff_ne.mpr c101
                  have c101b1 : (t348 != 0) = true := bne_iff_ne.mpr c101
                  obtain rfl := Option.some.inj H
                  have hnb112 := NB346_345.out
                  have hnc112 := NB345_346.out
                  have hnb113 := NB346_355.out
                  have hnc113 := NB355_346.out
                  have hnb114 := NB346_356.out
                  have hnc114 := NB356_346.out
                  have hnb115 := NB346_364.out
                  have hnc115 := NB364_346.out
                  have hcz116_0 : wc.cell? ⟨gb346, 0, none⟩ = some (.int .i64 t342) := (blk_cell BK346.out 0).trans rfl
                  have hcz116_1 : wc.cell? ⟨gb346, 1, none⟩ = some (.int .i64 t343) := (blk_cell BK346.out 1).trans rfl
                  have hfz116_0 := blk_frozen BK346.out 0
                  have hfz116_1 := blk_frozen BK346.out 1
                  go_wp2
                  go_ret
                  exact ⟨by first | rfl | (simp [errW_none, errW_some] <;> rfl) | (simp [*, errW_none, errW_some] <;> rfl), by repeat (first | (with_reducible first | exact HB.out | apply below_alloc | apply pw_below_drewN | apply below_drew1 | refine below_set ?_ GE345.out | refine below_set ?_ GE346.out | refine below_set ?_ GE355.out | refine below_set ?_ GE356.out | refine below_set ?_ GE364.out) | exact HB.out)⟩

/-- The one pure statement of laws_FnWeights. -/
def laws_FnWeights.Pure : Prop := ∀ (l0 : List Int), l0.length * 1 ≤ 140737488351232 → (∀ x ∈ l0, (Lit.int .u8 x).wf = true) → ∃ k, laws_FnWeights.f k l0 = some true
theorem laws_FnWeights.walk (P : laws_FnWeights.Pure) (A0 : Option Addr) (c0 : Nat) (l0 : List Int) (w : World) (w0_0 : l0.length * 1 ≤ 140737488351232) (w0_1 : (∀ x ∈ l0, (Lit.int .u8 x).wf = true)) (hr0 : Kd.C (Kd.int .u8) w A0 l0.length l0) (hc0 : l0.length ≤ c0) :
    Calls Try.prog 8 #[.slice A0 l0.length c0] w fun e w' => e = .returned (.bool true) ∧ Below w.heap.size w w' := by
  obtain ⟨k, h⟩ := P l0 w0_0 w0_1
  refine (laws_FnWeights.calls k A0 c0 l0 true w ⟨rfl⟩ hr0 hc0 h).mono ?_
  rintro e w' ⟨rfl, hd⟩
  exact ⟨rfl, hd⟩

end Go.Proofs.Ytdgacclmnfpajaa.PFnWeights
