-- Printed by the session (wip/myprint.py).
import Derived.Test.YtefnoiajfjbbpaaPFnBillsx0
import Derived.Test.YtefnoiajfjbbpaaPFnBillsx2
import Derived.Test.YtefnoiajfjbbpaaPFnBillsx3
import Derived.Test.YtefnoiajfjbbpaaPFnBillsx4
import Derived.Test.YtefnoiajfjbbpaaPFnBillsx5
import Derived.Test.YtefnoiajfjbbpaaPFnBillsx6
import Derived.Test.YtefnoiajfjbbpaaPFnBillsx7
import Derived.Test.YtefnoiajfjbbpaaPFnBillsx8
import Derived.Test.YtefnoiajfjbbpaaPFnBillsx9
namespace Go.Proofs.Ytefnoiajfjbbpaa.PFnBills
open Go.RowKit Go.Proofs.YtefnoiajfjbbpaaW.PrintWords Go.Proofs.YtefnoiajfjbbpaaW.PrintLast Go.Proofs.YtefnoiajfjbbpaaW.PrintMore
attribute [local go_sem] max2_int min2_int max_two min_two max_three min_three max_four min_four   -- for this text's walks alone
set_option linter.unusedVariables false
set_option linter.unusedSimpArgs false

/-! ### laws_FnBills: function 7 -/
mutual
def laws_FnBills.j0 : Nat → List (S107) → List (S107) → Int → List (S107) → List (S107) → List Int → Int → List (S107) → Int → Int → Int → Int → Int → Int → Int → Bool → Option (Bool)
  | 0, _, _, _, _, _, _, _, _, _, _, _, _, _, _, _, _ => none
  | k + 1, x4, x5, x6, x9, x10, x11, x12, x15, x18, x19, x22, x23, x24, x25, x28, x181 => if x181 = true then (some false) else (if x12 = 0 then ((impl_SumOfBill.f k x9).bind fun bt460 => ((impl_SumOfBill.f k x10).bind fun bt462 => (if bt460.2 = 0 then (if bt462.2 = 0 then ((laws_sum.f k x11).bind fun t464 => (if t464 = (wrap64 (bt462.1 - bt460.1)) then (laws_FnBills.j1 k x4 x5 x6 x15 x18 x19 x22 x23 x24 x25 x28) else (some false))) else (some false)) else (some false)))) else (laws_FnBills.j1 k x4 x5 x6 x15 x18 x19 x22 x23 x24 x25 x28))
def laws_FnBills.j1 : Nat → List (S107) → List (S107) → Int → List (S107) → Int → Int → Int → Int → Int → Int → Int → Option (Bool)
  | 0, _, _, _, _, _, _, _, _, _, _, _ => none
  | k + 1, x4, x5, x6, x15, x18, x19, x22, x23, x24, x25, x28 => if x19 = 0 then ((impl_SumOfBill.f k x15).bind fun bt465 => (if bt465.2 = 0 then (if x18 < bt465.1 then (some false) else (laws_FnBills.j2 k x4 x5 x6 x22 x23 x24 x25 x28)) else (some false))) else (laws_FnBills.j2 k x4 x5 x6 x22 x23 x24 x25 x28)
def laws_FnBills.j2 : Nat → List (S107) → List (S107) → Int → Int → Int → Int → Int → Int → Option (Bool)
  | 0, _, _, _, _, _, _, _, _ => none
  | k + 1, x4, x5, x6, x22, x23, x24, x25, x28 => if x25 = 0 then (if (wrap64 (100 * (wrap64 (x24 - x22)))) < (wrap64 (x22 * x23)) then (laws_FnBills.j3 k x4 x5 x6 x28 true) else (laws_FnBills.j3 k x4 x5 x6 x28 (decide ((wrap64 (100 * (wrap64 (x24 - x22)))) ≥ (wrap64 ((wrap64 (x22 * x23)) + 100)))))) else (laws_FnBills.j3 k x4 x5 x6 x28 false)
def laws_FnBills.j3 : Nat → List (S107) → List (S107) → Int → Int → Bool → Option (Bool)
  | 0, _, _, _, _, _ => none
  | k + 1, x4, x5, x6, x28, x244 => if x244 = true then (some false) else (if x6 = 0 then ((impl_SumOfBill.f k x5).bind fun bt467 => ((impl_SumOfBill.f k x4).bind fun bt469 => (if bt467.2 = 0 then (if bt469.2 = 0 then (some (bt467.1 == (wrap64 (x28 + bt469.1)))) else (some false)) else (some false)))) else (some true))
end
def laws_FnBills.f (k : Nat) (l0 : List Int) : Option (Bool) := (laws_big.f l0).bind fun t409 => (if t409 = true then (some true) else ((spec_DrawMergeBills.f k l0).bind fun bt410 => ((impl_MergeBills.f k bt410.1 bt410.2).bind fun bt416 => ((spec_MergeBills.f k bt410.1 bt410.2).bind fun bt420 => ((spec_DrawVarianceOf.f k l0).bind fun bt424 => ((impl_VarianceOf.f k bt424.1 bt424.2).bind fun bt430 => ((spec_VarianceOf.f k bt424.1 bt424.2).bind fun bt434 => ((spec_DrawQuoteOf.f k l0).bind fun bt438 => ((impl_QuoteOf.f k bt438.1 bt438.2.1 bt438.2.2).bind fun bt443 => ((spec_QuoteOf.f k bt438.1 bt438.2.1 bt438.2.2).bind fun bt445 => ((spec_DrawWithPercent.f k l0).bind fun bt447 => ((impl_WithPercent.f bt447.1 bt447.2).bind fun bt449 => ((spec_WithPercent.f bt447.1 bt447.2).bind fun bt451 => ((impl_SumOfBill.f k bt410.1).bind fun bt453 => ((spec_SumOfBill.f k bt410.1).bind fun bt455 => (if bt416.2 = bt420.2 then ((laws_likeLines9.f k bt416.1 bt420.1).bind fun t457 => (if t457 = true then (if bt430.2 = bt434.2 then ((laws_likeInts.f k bt430.1 bt434.1).bind fun t458 => (if t458 = true then (if bt443.2 = bt445.2 then (if bt443.1 = bt445.1 then (if bt449.2 = bt451.2 then (if bt449.1 = bt451.1 then (if bt453.2 = bt455.2 then (if bt453.1 = bt455.1 then ((impl_IsBill.f k bt410.1).bind fun t459 => (laws_FnBills.j0 k bt410.2 bt416.1 bt416.2 bt424.1 bt424.2 bt430.1 bt430.2 bt438.1 bt443.1 bt443.2 bt447.1 bt447.2 bt449.1 bt449.2 bt453.1 (t459 != (bt455.2 == 0)))) else (laws_FnBills.j0 k bt410.2 bt416.1 bt416.2 bt424.1 bt424.2 bt430.1 bt430.2 bt438.1 bt443.1 bt443.2 bt447.1 bt447.2 bt449.1 bt449.2 bt453.1 true)) else (laws_FnBills.j0 k bt410.2 bt416.1 bt416.2 bt424.1 bt424.2 bt430.1 bt430.2 bt438.1 bt443.1 bt443.2 bt447.1 bt447.2 bt449.1 bt449.2 bt453.1 true)) else (laws_FnBills.j0 k bt410.2 bt416.1 bt416.2 bt424.1 bt424.2 bt430.1 bt430.2 bt438.1 bt443.1 bt443.2 bt447.1 bt447.2 bt449.1 bt449.2 bt453.1 true)) else (laws_FnBills.j0 k bt410.2 bt416.1 bt416.2 bt424.1 bt424.2 bt430.1 bt430.2 bt438.1 bt443.1 bt443.2 bt447.1 bt447.2 bt449.1 bt449.2 bt453.1 true)) else (laws_FnBills.j0 k bt410.2 bt416.1 bt416.2 bt424.1 bt424.2 bt430.1 bt430.2 bt438.1 bt443.1 bt443.2 bt447.1 bt447.2 bt449.1 bt449.2 bt453.1 true)) else (laws_FnBills.j0 k bt410.2 bt416.1 bt416.2 bt424.1 bt424.2 bt430.1 bt430.2 bt438.1 bt443.1 bt443.2 bt447.1 bt447.2 bt449.1 bt449.2 bt453.1 true)) else (laws_FnBills.j0 k bt410.2 bt416.1 bt416.2 bt424.1 bt424.2 bt430.1 bt430.2 bt438.1 bt443.1 bt443.2 bt447.1 bt447.2 bt449.1 bt449.2 bt453.1 true))) else (laws_FnBills.j0 k bt410.2 bt416.1 bt416.2 bt424.1 bt424.2 bt430.1 bt430.2 bt438.1 bt443.1 bt443.2 bt447.1 bt447.2 bt449.1 bt449.2 bt453.1 true)) else (laws_FnBills.j0 k bt410.2 bt416.1 bt416.2 bt424.1 bt424.2 bt430.1 bt430.2 bt438.1 bt443.1 bt443.2 bt447.1 bt447.2 bt449.1 bt449.2 bt453.1 true))) else (laws_FnBills.j0 k bt410.2 bt416.1 bt416.2 bt424.1 bt424.2 bt430.1 bt430.2 bt438.1 bt443.1 bt443.2 bt447.1 bt447.2 bt449.1 bt449.2 bt453.1 true)))))))))))))))))
theorem laws_FnBills.mono_l : ∀ k, (∀ y0 y1 y2 y3 y4 y5 y6 y7 y8 y9 y10 y11 y12 y13 y14 y15, LeO (laws_FnBills.j0 k y0 y1 y2 y3 y4 y5 y6 y7 y8 y9 y10 y11 y12 y13 y14 y15) (laws_FnBills.j0 (k + 1) y0 y1 y2 y3 y4 y5 y6 y7 y8 y9 y10 y11 y12 y13 y14 y15)) ∧ (∀ y0 y1 y2 y3 y4 y5 y6 y7 y8 y9 y10, LeO (laws_FnBills.j1 k y0 y1 y2 y3 y4 y5 y6 y7 y8 y9 y10) (laws_FnBills.j1 (k + 1) y0 y1 y2 y3 y4 y5 y6 y7 y8 y9 y10)) ∧ (∀ y0 y1 y2 y3 y4 y5 y6 y7, LeO (laws_FnBills.j2 k y0 y1 y2 y3 y4 y5 y6 y7) (laws_FnBills.j2 (k + 1) y0 y1 y2 y3 y4 y5 y6 y7)) ∧ (∀ y0 y1 y2 y3 y4, LeO (laws_FnBills.j3 k y0 y1 y2 y3 y4) (laws_FnBills.j3 (k + 1) y0 y1 y2 y3 y4))
  | 0 => ⟨fun _ _ _ _ _ _ _ _ _ _ _ _ _ _ _ _ r h => by simp [laws_FnBills.j0] at h, fun _ _ _ _ _ _ _ _ _ _ _ r h => by simp [laws_FnBills.j1] at h, fun _ _ _ _ _ _ _ _ r h => by simp [laws_FnBills.j2] at h, fun _ _ _ _ _ r h => by simp [laws_FnBills.j3] at h⟩
  | k + 1 => by
    obtain ⟨ih0, ih1, ih2, ih3⟩ := laws_FnBills.mono_l k
    refine ⟨?_, ?_, ?_, ?_⟩
    · intro y0 y1 y2 y3 y4 y5 y6 y7 y8 y9 y10 y11 y12 y13 y14 y15
      unfold laws_FnBills.j0
      repeat' first
      | (with_reducible exact ih0 _ _ _ _ _ _ _ _ _ _ _ _ _ _ _ _)
      | (with_reducible exact ih1 _ _ _ _ _ _ _ _ _ _ _)
      | (with_reducible exact ih2 _ _ _ _ _ _ _ _)
      | (with_reducible exact ih3 _ _ _ _ _)
      | (with_reducible exact impl_IsBill.mono _ _)
      | (with_reducible exact impl_MergeBills.mono _ _ _)
      | (with_reducible exact impl_QuoteOf.mono _ _ _ _)
      | (with_reducible exact impl_SumOfBill.mono _ _)
      | (with_reducible exact impl_VarianceOf.mono _ _ _)
      | (with_reducible exact laws_likeInts.mono _ _ _)
      | (with_reducible exact laws_likeLines9.mono _ _ _)
      | (with_reducible exact laws_sum.mono _ _)
      | (with_reducible exact spec_DrawMergeBills.mono _ _)
      | (with_reducible exact spec_DrawQuoteOf.mono _ _)
      | (with_reducible exact spec_DrawVarianceOf.mono _ _)
      | (with_reducible exact spec_DrawWithPercent.mono _ _)
      | (with_reducible exact spec_MergeBills.mono _ _ _)
      | (with_reducible exact spec_QuoteOf.mono _ _ _ _)
      | (with_reducible exact spec_SumOfBill.mono _ _)
      | (with_reducible exact spec_VarianceOf.mono _ _ _)
      | (with_reducible exact LeO.refl _)
      | (with_reducible exact LeO.none _)
      | (with_reducible refine LeO.ite ?_ ?_)
      | (with_reducible refine LeO.bind ?_ (fun _ => ?_))
      | exact ih0 _ _ _ _ _ _ _ _ _ _ _ _ _ _ _ _
      | exact ih1 _ _ _ _ _ _ _ _ _ _ _
      | exact ih2 _ _ _ _ _ _ _ _
      | exact ih3 _ _ _ _ _
      | exact impl_IsBill.mono _ _
      | exact impl_MergeBills.mono _ _ _
      | exact impl_QuoteOf.mono _ _ _ _
      | exact impl_SumOfBill.mono _ _
      | exact impl_VarianceOf.mono _ _ _
      | exact laws_likeInts.mono _ _ _
      | exact laws_likeLines9.mono _ _ _
      | exact laws_sum.mono _ _
      | exact spec_DrawMergeBills.mono _ _
      | exact spec_DrawQuoteOf.mono _ _
      | exact spec_DrawVarianceOf.mono _ _
      | exact spec_DrawWithPercent.mono _ _
      | exact spec_MergeBills.mono _ _ _
      | exact spec_QuoteOf.mono _ _ _ _
      | exact spec_SumOfBill.mono _ _
      | exact spec_VarianceOf.mono _ _ _
      | exact LeO.none _
      | refine LeO.ite ?_ ?_
      | refine LeO.bind ?_ (fun _ => ?_)
    · intro y0 y1 y2 y3 y4 y5 y6 y7 y8 y9 y10
      unfold laws_FnBills.j1
      repeat' first
      | (with_reducible exact ih0 _ _ _ _ _ _ _ _ _ _ _ _ _ _ _ _)
      | (with_reducible exact ih1 _ _ _ _ _ _ _ _ _ _ _)
      | (with_reducible exact ih2 _ _ _ _ _ _ _ _)
      | (with_reducible exact ih3 _ _ _ _ _)
      | (with_reducible exact impl_IsBill.mono _ _)
      | (with_reducible exact impl_MergeBills.mono _ _ _)
      | (with_reducible exact impl_QuoteOf.mono _ _ _ _)
      | (with_reducible exact impl_SumOfBill.mono _ _)
      | (with_reducible exact impl_VarianceOf.mono _ _ _)
      | (with_reducible exact laws_likeInts.mono _ _ _)
      | (with_reducible exact laws_likeLines9.mono _ _ _)
      | (with_reducible exact laws_sum.mono _ _)
      | (with_reducible exact spec_DrawMergeBills.mono _ _)
      | (with_reducible exact spec_DrawQuoteOf.mono _ _)
      | (with_reducible exact spec_DrawVarianceOf.mono _ _)
      | (with_reducible exact spec_DrawWithPercent.mono _ _)
      | (with_reducible exact spec_MergeBills.mono _ _ _)
      | (with_reducible exact spec_QuoteOf.mono _ _ _ _)
      | (with_reducible exact spec_SumOfBill.mono _ _)
      | (with_reducible exact spec_VarianceOf.mono _ _ _)
      | (with_reducible exact LeO.refl _)
      | (with_reducible exact LeO.none _)
      | (with_reducible refine LeO.ite ?_ ?_)
      | (with_reducible refine LeO.bind ?_ (fun _ => ?_))
      | exact ih0 _ _ _ _ _ _ _ _ _ _ _ _ _ _ _ _
      | exact ih1 _ _ _ _ _ _ _ _ _ _ _
      | exact ih2 _ _ _ _ _ _ _ _
      | exact ih3 _ _ _ _ _
      | exact impl_IsBill.mono _ _
      | exact impl_MergeBills.mono _ _ _
      | exact impl_QuoteOf.mono _ _ _ _
      | exact impl_SumOfBill.mono _ _
      | exact impl_VarianceOf.mono _ _ _
      | exact laws_likeInts.mono _ _ _
      | exact laws_likeLines9.mono _ _ _
      | exact laws_sum.mono _ _
      | exact spec_DrawMergeBills.mono _ _
      | exact spec_DrawQuoteOf.mono _ _
      | exact spec_DrawVarianceOf.mono _ _
      | exact spec_DrawWithPercent.mono _ _
      | exact spec_MergeBills.mono _ _ _
      | exact spec_QuoteOf.mono _ _ _ _
      | exact spec_SumOfBill.mono _ _
      | exact spec_VarianceOf.mono _ _ _
      | exact LeO.none _
      | refine LeO.ite ?_ ?_
      | refine LeO.bind ?_ (fun _ => ?_)
    · intro y0 y1 y2 y3 y4 y5 y6 y7
      unfold laws_FnBills.j2
      repeat' first
      | (with_reducible exact ih0 _ _ _ _ _ _ _ _ _ _ _ _ _ _ _ _)
      | (with_reducible exact ih1 _ _ _ _ _ _ _ _ _ _ _)
      | (with_reducible exact ih2 _ _ _ _ _ _ _ _)
      | (with_reducible exact ih3 _ _ _ _ _)
      | (with_reducible exact impl_IsBill.mono _ _)
      | (with_reducible exact impl_MergeBills.mono _ _ _)
      | (with_reducible exact impl_QuoteOf.mono _ _ _ _)
      | (with_reducible exact impl_SumOfBill.mono _ _)
      | (with_reducible exact impl_VarianceOf.mono _ _ _)
      | (with_reducible exact laws_likeInts.mono _ _ _)
      | (with_reducible exact laws_likeLines9.mono _ _ _)
      | (with_reducible exact laws_sum.mono _ _)
      | (with_reducible exact spec_DrawMergeBills.mono _ _)
      | (with_reducible exact spec_DrawQuoteOf.mono _ _)
      | (with_reducible exact spec_DrawVarianceOf.mono _ _)
      | (with_reducible exact spec_DrawWithPercent.mono _ _)
      | (with_reducible exact spec_MergeBills.mono _ _ _)
      | (with_reducible exact spec_QuoteOf.mono _ _ _ _)
      | (with_reducible exact spec_SumOfBill.mono _ _)
      | (with_reducible exact spec_VarianceOf.mono _ _ _)
      | (with_reducible exact LeO.refl _)
      | (with_reducible exact LeO.none _)
      | (with_reducible refine LeO.ite ?_ ?_)
      | (with_reducible refine LeO.bind ?_ (fun _ => ?_))
      | exact ih0 _ _ _ _ _ _ _ _ _ _ _ _ _ _ _ _
      | exact ih1 _ _ _ _ _ _ _ _ _ _ _
      | exact ih2 _ _ _ _ _ _ _ _
      | exact ih3 _ _ _ _ _
      | exact impl_IsBill.mono _ _
      | exact impl_MergeBills.mono _ _ _
      | exact impl_QuoteOf.mono _ _ _ _
      | exact impl_SumOfBill.mono _ _
      | exact impl_VarianceOf.mono _ _ _
      | exact laws_likeInts.mono _ _ _
      | exact laws_likeLines9.mono _ _ _
      | exact laws_sum.mono _ _
      | exact spec_DrawMergeBills.mono _ _
      | exact spec_DrawQuoteOf.mono _ _
      | exact spec_DrawVarianceOf.mono _ _
      | exact spec_DrawWithPercent.mono _ _
      | exact spec_MergeBills.mono _ _ _
      | exact spec_QuoteOf.mono _ _ _ _
      | exact spec_SumOfBill.mono _ _
      | exact spec_VarianceOf.mono _ _ _
      | exact LeO.none _
      | refine LeO.ite ?_ ?_
      | refine LeO.bind ?_ (fun _ => ?_)
    · intro y0 y1 y2 y3 y4
      unfold laws_FnBills.j3
      repeat' first
      | (with_reducible exact ih0 _ _ _ _ _ _ _ _ _ _ _ _ _ _ _ _)
      | (with_reducible exact ih1 _ _ _ _ _ _ _ _ _ _ _)
      | (with_reducible exact ih2 _ _ _ _ _ _ _ _)
      | (with_reducible exact ih3 _ _ _ _ _)
      | (with_reducible exact impl_IsBill.mono _ _)
      | (with_reducible exact impl_MergeBills.mono _ _ _)
      | (with_reducible exact impl_QuoteOf.mono _ _ _ _)
      | (with_reducible exact impl_SumOfBill.mono _ _)
      | (with_reducible exact impl_VarianceOf.mono _ _ _)
      | (with_reducible exact laws_likeInts.mono _ _ _)
      | (with_reducible exact laws_likeLines9.mono _ _ _)
      | (with_reducible exact laws_sum.mono _ _)
      | (with_reducible exact spec_DrawMergeBills.mono _ _)
      | (with_reducible exact spec_DrawQuoteOf.mono _ _)
      | (with_reducible exact spec_DrawVarianceOf.mono _ _)
      | (with_reducible exact spec_DrawWithPercent.mono _ _)
      | (with_reducible exact spec_MergeBills.mono _ _ _)
      | (with_reducible exact spec_QuoteOf.mono _ _ _ _)
      | (with_reducible exact spec_SumOfBill.mono _ _)
      | (with_reducible exact spec_VarianceOf.mono _ _ _)
      | (with_reducible exact LeO.refl _)
      | (with_reducible exact LeO.none _)
      | (with_reducible refine LeO.ite ?_ ?_)
      | (with_reducible refine LeO.bind ?_ (fun _ => ?_))
      | exact ih0 _ _ _ _ _ _ _ _ _ _ _ _ _ _ _ _
      | exact ih1 _ _ _ _ _ _ _ _ _ _ _
      | exact ih2 _ _ _ _ _ _ _ _
      | exact ih3 _ _ _ _ _
      | exact impl_IsBill.mono _ _
      | exact impl_MergeBills.mono _ _ _
      | exact impl_QuoteOf.mono _ _ _ _
      | exact impl_SumOfBill.mono _ _
      | exact impl_VarianceOf.mono _ _ _
      | exact laws_likeInts.mono _ _ _
      | exact laws_likeLines9.mono _ _ _
      | exact laws_sum.mono _ _
      | exact spec_DrawMergeBills.mono _ _
      | exact spec_DrawQuoteOf.mono _ _
      | exact spec_DrawVarianceOf.mono _ _
      | exact spec_DrawWithPercent.mono _ _
      | exact spec_MergeBills.mono _ _ _
      | exact spec_QuoteOf.mono _ _ _ _
      | exact spec_SumOfBill.mono _ _
      | exact spec_VarianceOf.mono _ _ _
      | exact LeO.none _
      | refine LeO.ite ?_ ?_
      | refine LeO.bind ?_ (fun _ => ?_)
theorem laws_FnBills.mono : ∀ a0 k, LeO (laws_FnBills.f k a0) (laws_FnBills.f (k + 1) a0) := by
  intro a0 k
  obtain ⟨ih0, ih1, ih2, ih3⟩ := laws_FnBills.mono_l k
  unfold laws_FnBills.f
  repeat' first
      | (with_reducible exact ih0 _ _ _ _ _ _ _ _ _ _ _ _ _ _ _ _)
      | (with_reducible exact ih1 _ _ _ _ _ _ _ _ _ _ _)
      | (with_reducible exact ih2 _ _ _ _ _ _ _ _)
      | (with_reducible exact ih3 _ _ _ _ _)
      | (with_reducible exact impl_IsBill.mono _ _)
      | (with_reducible exact impl_MergeBills.mono _ _ _)
      | (with_reducible exact impl_QuoteOf.mono _ _ _ _)
      | (with_reducible exact impl_SumOfBill.mono _ _)
      | (with_reducible exact impl_VarianceOf.mono _ _ _)
      | (with_reducible exact laws_likeInts.mono _ _ _)
      | (with_reducible exact laws_likeLines9.mono _ _ _)
      | (with_reducible exact laws_sum.mono _ _)
      | (with_reducible exact spec_DrawMergeBills.mono _ _)
      | (with_reducible exact spec_DrawQuoteOf.mono _ _)
      | (with_reducible exact spec_DrawVarianceOf.mono _ _)
      | (with_reducible exact spec_DrawWithPercent.mono _ _)
      | (with_reducible exact spec_MergeBills.mono _ _ _)
      | (with_reducible exact spec_QuoteOf.mono _ _ _ _)
      | (with_reducible exact spec_SumOfBill.mono _ _)
      | (with_reducible exact spec_VarianceOf.mono _ _ _)
      | (with_reducible exact LeO.refl _)
      | (with_reducible exact LeO.none _)
      | (with_reducible refine LeO.ite ?_ ?_)
      | (with_reducible refine LeO.bind ?_ (fun _ => ?_))
      | exact ih0 _ _ _ _ _ _ _ _ _ _ _ _ _ _ _ _
      | exact ih1 _ _ _ _ _ _ _ _ _ _ _
      | exact ih2 _ _ _ _ _ _ _ _
      | exact ih3 _ _ _ _ _
      | exact impl_IsBill.mono _ _
      | exact impl_MergeBills.mono _ _ _
      | exact impl_QuoteOf.mono _ _ _ _
      | exact impl_SumOfBill.mono _ _
      | exact impl_VarianceOf.mono _ _ _
      | exact laws_likeInts.mono _ _ _
      | exact laws_likeLines9.mono _ _ _
      | exact laws_sum.mono _ _
      | exact spec_DrawMergeBills.mono _ _
      | exact spec_DrawQuoteOf.mono _ _
      | exact spec_DrawVarianceOf.mono _ _
      | exact spec_DrawWithPercent.mono _ _
      | exact spec_MergeBills.mono _ _ _
      | exact spec_QuoteOf.mono _ _ _ _
      | exact spec_SumOfBill.mono _ _
      | exact spec_VarianceOf.mono _ _ _
      | exact LeO.none _
      | refine LeO.ite ?_ ?_
      | refine LeO.bind ?_ (fun _ => ?_)
set_option maxHeartbeats 8000000 in
set_option maxRecDepth 100000 in
theorem laws_FnBills.calls (k : Nat) (A0 : Option Addr) (c0 : Nat) (l0 : List Int) (r : Bool) (w : World) (hT : Aside0 (r = true)) (hr0 : Kd.C (Kd.int .u8) w A0 l0.length l0) (hc0 : l0.length ≤ c0) (h : laws_FnBills.f k l0 = some r) :
    Calls Try.prog 7 #[.slice A0 l0.length c0] w fun e w' => e = .returned (.bool r) ∧ Below w.heap.size w w' := by
  have HR0 := Aside0.mk hr0
  have HC0 := Aside0.mk hc0
  clear hr0 hc0
  have HB := Aside0.mk (Below.refl w.heap.size w)
  have H : ((laws_big.f l0).bind fun t409 => (if t409 = true then (some true) else ((spec_DrawMergeBills.f k l0).bind fun bt410 => ((impl_MergeBills.f k bt410.1 bt410.2).bind fun bt416 => ((spec_MergeBills.f k bt410.1 bt410.2).bind fun bt420 => ((spec_DrawVarianceOf.f k l0).bind fun bt424 => ((impl_VarianceOf.f k bt424.1 bt424.2).bind fun bt430 => ((spec_VarianceOf.f k bt424.1 bt424.2).bind fun bt434 => ((spec_DrawQuoteOf.f k l0).bind fun bt438 => ((impl_QuoteOf.f k bt438.1 bt438.2.1 bt438.2.2).bind fun bt443 => ((spec_QuoteOf.f k bt438.1 bt438.2.1 bt438.2.2).bind fun bt445 => ((spec_DrawWithPercent.f k l0).bind fun bt447 => ((impl_WithPercent.f bt447.1 bt447.2).bind fun bt449 => ((spec_WithPercent.f bt447.1 bt447.2).bind fun bt451 => ((impl_SumOfBill.f k bt410.1).bind fun bt453 => ((spec_SumOfBill.f k bt410.1).bind fun bt455 => (if bt416.2 = bt420.2 then ((laws_likeLines9.f k bt416.1 bt420.1).bind fun t457 => (if t457 = true then (if bt430.2 = bt434.2 then ((laws_likeInts.f k bt430.1 bt434.1).bind fun t458 => (if t458 = true then (if bt443.2 = bt445.2 then (if bt443.1 = bt445.1 then (if bt449.2 = bt451.2 then (if bt449.1 = bt451.1 then (if bt453.2 = bt455.2 then (if bt453.1 = bt455.1 then ((impl_IsBill.f k bt410.1).bind fun t459 => (laws_FnBills.j0 k bt410.2 bt416.1 bt416.2 bt424.1 bt424.2 bt430.1 bt430.2 bt438.1 bt443.1 bt443.2 bt447.1 bt447.2 bt449.1 bt449.2 bt453.1 (t459 != (bt455.2 == 0)))) else (laws_FnBills.j0 k bt410.2 bt416.1 bt416.2 bt424.1 bt424.2 bt430.1 bt430.2 bt438.1 bt443.1 bt443.2 bt447.1 bt447.2 bt449.1 bt449.2 bt453.1 true)) else (laws_FnBills.j0 k bt410.2 bt416.1 bt416.2 bt424.1 bt424.2 bt430.1 bt430.2 bt438.1 bt443.1 bt443.2 bt447.1 bt447.2 bt449.1 bt449.2 bt453.1 true)) else (laws_FnBills.j0 k bt410.2 bt416.1 bt416.2 bt424.1 bt424.2 bt430.1 bt430.2 bt438.1 bt443.1 bt443.2 bt447.1 bt447.2 bt449.1 bt449.2 bt453.1 true)) else (laws_FnBills.j0 k bt410.2 bt416.1 bt416.2 bt424.1 bt424.2 bt430.1 bt430.2 bt438.1 bt443.1 bt443.2 bt447.1 bt447.2 bt449.1 bt449.2 bt453.1 true)) else (laws_FnBills.j0 k bt410.2 bt416.1 bt416.2 bt424.1 bt424.2 bt430.1 bt430.2 bt438.1 bt443.1 bt443.2 bt447.1 bt447.2 bt449.1 bt449.2 bt453.1 true)) else (laws_FnBills.j0 k bt410.2 bt416.1 bt416.2 bt424.1 bt424.2 bt430.1 bt430.2 bt438.1 bt443.1 bt443.2 bt447.1 bt447.2 bt449.1 bt449.2 bt453.1 true)) else (laws_FnBills.j0 k bt410.2 bt416.1 bt416.2 bt424.1 bt424.2 bt430.1 bt430.2 bt438.1 bt443.1 bt443.2 bt447.1 bt447.2 bt449.1 bt449.2 bt453.1 true))) else (laws_FnBills.j0 k bt410.2 bt416.1 bt416.2 bt424.1 bt424.2 bt430.1 bt430.2 bt438.1 bt443.1 bt443.2 bt447.1 bt447.2 bt449.1 bt449.2 bt453.1 true)) else (laws_FnBills.j0 k bt410.2 bt416.1 bt416.2 bt424.1 bt424.2 bt430.1 bt430.2 bt438.1 bt443.1 bt443.2 bt447.1 bt447.2 bt449.1 bt449.2 bt453.1 true))) else (laws_FnBills.j0 k bt410.2 bt416.1 bt416.2 bt424.1 bt424.2 bt430.1 bt430.2 bt438.1 bt443.1 bt443.2 bt447.1 bt447.2 bt449.1 bt449.2 bt453.1 true)))))))))))))))))) = some r := h
  clear h
  replace H := Option.bind_eq_some_iff.mp H
  obtain ⟨t409, A20, H⟩ := H
  replace H : (if t409 = true then (some true) else ((spec_DrawMergeBills.f k l0).bind fun bt410 => ((impl_MergeBills.f k bt410.1 bt410.2).bind fun bt416 => ((spec_MergeBills.f k bt410.1 bt410.2).bind fun bt420 => ((spec_DrawVarianceOf.f k l0).bind fun bt424 => ((impl_VarianceOf.f k bt424.1 bt424.2).bind fun bt430 => ((spec_VarianceOf.f k bt424.1 bt424.2).bind fun bt434 => ((spec_DrawQuoteOf.f k l0).bind fun bt438 => ((impl_QuoteOf.f k bt438.1 bt438.2.1 bt438.2.2).bind fun bt443 => ((spec_QuoteOf.f k bt438.1 bt438.2.1 bt438.2.2).bind fun bt445 => ((spec_DrawWithPercent.f k l0).bind fun bt447 => ((impl_WithPercent.f bt447.1 bt447.2).bind fun bt449 => ((spec_WithPercent.f bt447.1 bt447.2).bind fun bt451 => ((impl_SumOfBill.f k bt410.1).bind fun bt453 => ((spec_SumOfBill.f k bt410.1).bind fun bt455 => (if bt416.2 = bt420.2 then ((laws_likeLines9.f k bt416.1 bt420.1).bind fun t457 => (if t457 = true then (if bt430.2 = bt434.2 then ((laws_likeInts.f k bt430.1 bt434.1).bind fun t458 => (if t458 = true then (if bt443.2 = bt445.2 then (if bt443.1 = bt445.1 then (if bt449.2 = bt451.2 then (if bt449.1 = bt451.1 then (if bt453.2 = bt455.2 then (if bt453.1 = bt455.1 then ((impl_IsBill.f k bt410.1).bind fun t459 => (laws_FnBills.j0 k bt410.2 bt416.1 bt416.2 bt424.1 bt424.2 bt430.1 bt430.2 bt438.1 bt443.1 bt443.2 bt447.1 bt447.2 bt449.1 bt449.2 bt453.1 (t459 != (bt455.2 == 0)))) else (laws_FnBills.j0 k bt410.2 bt416.1 bt416.2 bt424.1 bt424.2 bt430.1 bt430.2 bt438.1 bt443.1 bt443.2 bt447.1 bt447.2 bt449.1 bt449.2 bt453.1 true)) else (laws_FnBills.j0 k bt410.2 bt416.1 bt416.2 bt424.1 bt424.2 bt430.1 bt430.2 bt438.1 bt443.1 bt443.2 bt447.1 bt447.2 bt449.1 bt449.2 bt453.1 true)) else (laws_FnBills.j0 k bt410.2 bt416.1 bt416.2 bt424.1 bt424.2 bt430.1 bt430.2 bt438.1 bt443.1 bt443.2 bt447.1 bt447.2 bt449.1 bt449.2 bt453.1 true)) else (laws_FnBills.j0 k bt410.2 bt416.1 bt416.2 bt424.1 bt424.2 bt430.1 bt430.2 bt438.1 bt443.1 bt443.2 bt447.1 bt447.2 bt449.1 bt449.2 bt453.1 true)) else (laws_FnBills.j0 k bt410.2 bt416.1 bt416.2 bt424.1 bt424.2 bt430.1 bt430.2 bt438.1 bt443.1 bt443.2 bt447.1 bt447.2 bt449.1 bt449.2 bt453.1 true)) else (laws_FnBills.j0 k bt410.2 bt416.1 bt416.2 bt424.1 bt424.2 bt430.1 bt430.2 bt438.1 bt443.1 bt443.2 bt447.1 bt447.2 bt449.1 bt449.2 bt453.1 true)) else (laws_FnBills.j0 k bt410.2 bt416.1 bt416.2 bt424.1 bt424.2 bt430.1 bt430.2 bt438.1 bt443.1 bt443.2 bt447.1 bt447.2 bt449.1 bt449.2 bt453.1 true))) else (laws_FnBills.j0 k bt410.2 bt416.1 bt416.2 bt424.1 bt424.2 bt430.1 bt430.2 bt438.1 bt443.1 bt443.2 bt447.1 bt447.2 bt449.1 bt449.2 bt453.1 true)) else (laws_FnBills.j0 k bt410.2 bt416.1 bt416.2 bt424.1 bt424.2 bt430.1 bt430.2 bt438.1 bt443.1 bt443.2 bt447.1 bt447.2 bt449.1 bt449.2 bt453.1 true))) else (laws_FnBills.j0 k bt410.2 bt416.1 bt416.2 bt424.1 bt424.2 bt430.1 bt430.2 bt438.1 bt443.1 bt443.2 bt447.1 bt447.2 bt449.1 bt449.2 bt453.1 true))))))))))))))))) = some r := H
  have A2 := Aside0.mk A20
  clear A20
  by_cases c3 : t409 = true
  · subst c3
    have H1 : (some true) = some r := by rw [if_pos rfl] at H; exact H
    clear H
    have H := H1
    clear H1
    obtain rfl := Option.some.inj H
    go_enter Try.func7, Try.ntmps7
    as_aux_lemma =>
      go_wp2_with (first | ((with_reducible refine gate_callee (f := 33) rfl ?_); refine goesL_ (some 43) rfl rfl Try.func33 (by kernel_rfl) rfl #[.slice A0 l0.length c0] rfl (by (try simp only [List.map_toArray, List.map_cons, List.map_nil]); first | done | rfl | (simp only [List.length_drop, List.length_take]; rfl)) ?_; (with_reducible refine (laws_big.calls _ _ l0 true _ ?side1 ?side2 A2.out).mono ?_); (case side1 => repeat (first | exact HR0.out | (with_reducible refine Kd.C_alloc ?_ _) | (with_reducible refine Kd.C_drewN ?_ _) | (with_reducible refine Kd.C_drew ?_))); (case side2 => exact HC0.out); rintro e w' ⟨rfl, ⟨nd, rfl⟩⟩; refine ⟨_, rfl, ?_⟩))
      go_ret
      exact ⟨by first | rfl | (simp [errW_none, errW_some] <;> rfl) | (simp [*, errW_none, errW_some] <;> rfl), by repeat (first | (with_reducible first | exact HB.out | apply below_alloc | apply pw_below_drewN | apply below_drew1) | exact HB.out)⟩
  · replace c3 := Bool.eq_false_iff.mpr c3
    subst c3
    have H1 : ((spec_DrawMergeBills.f k l0).bind fun bt410 => ((impl_MergeBills.f k bt410.1 bt410.2).bind fun bt416 => ((spec_MergeBills.f k bt410.1 bt410.2).bind fun bt420 => ((spec_DrawVarianceOf.f k l0).bind fun bt424 => ((impl_VarianceOf.f k bt424.1 bt424.2).bind fun bt430 => ((spec_VarianceOf.f k bt424.1 bt424.2).bind fun bt434 => ((spec_DrawQuoteOf.f k l0).bind fun bt438 => ((impl_QuoteOf.f k bt438.1 bt438.2.1 bt438.2.2).bind fun bt443 => ((spec_QuoteOf.f k bt438.1 bt438.2.1 bt438.2.2).bind fun bt445 => ((spec_DrawWithPercent.f k l0).bind fun bt447 => ((impl_WithPercent.f bt447.1 bt447.2).bind fun bt449 => ((spec_WithPercent.f bt447.1 bt447.2).bind fun bt451 => ((impl_SumOfBill.f k bt410.1).bind fun bt453 => ((spec_SumOfBill.f k bt410.1).bind fun bt455 => (if bt416.2 = bt420.2 then ((laws_likeLines9.f k bt416.1 bt420.1).bind fun t457 => (if t457 = true then (if bt430.2 = bt434.2 then ((laws_likeInts.f k bt430.1 bt434.1).bind fun t458 => (if t458 = true then (if bt443.2 = bt445.2 then (if bt443.1 = bt445.1 then (if bt449.2 = bt451.2 then (if bt449.1 = bt451.1 then (if bt453.2 = bt455.2 then (if bt453.1 = bt455.1 then ((impl_IsBill.f k bt410.1).bind fun t459 => (laws_FnBills.j0 k bt410.2 bt416.1 bt416.2 bt424.1 bt424.2 bt430.1 bt430.2 bt438.1 bt443.1 bt443.2 bt447.1 bt447.2 bt449.1 bt449.2 bt453.1 (t459 != (bt455.2 == 0)))) else (laws_FnBills.j0 k bt410.2 bt416.1 bt416.2 bt424.1 bt424.2 bt430.1 bt430.2 bt438.1 bt443.1 bt443.2 bt447.1 bt447.2 bt449.1 bt449.2 bt453.1 true)) else (laws_FnBills.j0 k bt410.2 bt416.1 bt416.2 bt424.1 bt424.2 bt430.1 bt430.2 bt438.1 bt443.1 bt443.2 bt447.1 bt447.2 bt449.1 bt449.2 bt453.1 true)) else (laws_FnBills.j0 k bt410.2 bt416.1 bt416.2 bt424.1 bt424.2 bt430.1 bt430.2 bt438.1 bt443.1 bt443.2 bt447.1 bt447.2 bt449.1 bt449.2 bt453.1 true)) else (laws_FnBills.j0 k bt410.2 bt416.1 bt416.2 bt424.1 bt424.2 bt430.1 bt430.2 bt438.1 bt443.1 bt443.2 bt447.1 bt447.2 bt449.1 bt449.2 bt453.1 true)) else (laws_FnBills.j0 k bt410.2 bt416.1 bt416.2 bt424.1 bt424.2 bt430.1 bt430.2 bt438.1 bt443.1 bt443.2 bt447.1 bt447.2 bt449.1 bt449.2 bt453.1 true)) else (laws_FnBills.j0 k bt410.2 bt416.1 bt416.2 bt424.1 bt424.2 bt430.1 bt430.2 bt438.1 bt443.1 bt443.2 bt447.1 bt447.2 bt449.1 bt449.2 bt453.1 true)) else (laws_FnBills.j0 k bt410.2 bt416.1 bt416.2 bt424.1 bt424.2 bt430.1 bt430.2 bt438.1 bt443.1 bt443.2 bt447.1 bt447.2 bt449.1 bt449.2 bt453.1 true))) else (laws_FnBills.j0 k bt410.2 bt416.1 bt416.2 bt424.1 bt424.2 bt430.1 bt430.2 bt438.1 bt443.1 bt443.2 bt447.1 bt447.2 bt449.1 bt449.2 bt453.1 true)) else (laws_FnBills.j0 k bt410.2 bt416.1 bt416.2 bt424.1 bt424.2 bt430.1 bt430.2 bt438.1 bt443.1 bt443.2 bt447.1 bt447.2 bt449.1 bt449.2 bt453.1 true))) else (laws_FnBills.j0 k bt410.2 bt416.1 bt416.2 bt424.1 bt424.2 bt430.1 bt430.2 bt438.1 bt443.1 bt443.2 bt447.1 bt447.2 bt449.1 bt449.2 bt453.1 true)))))))))))))))) = some r := by rw [if_neg (show ¬ (false = true) by decide)] at H; exact H
    clear H
    have H := H1
    clear H1
    replace H := Option.bind_eq_some_iff.mp H
    obtain ⟨⟨t410, t411⟩, A40, H⟩ := H
    replace H : ((impl_MergeBills.f k t410 t411).bind fun bt416 => ((spec_MergeBills.f k t410 t411).bind fun bt420 => ((spec_DrawVarianceOf.f k l0).bind fun bt424 => ((impl_VarianceOf.f k bt424.1 bt424.2).bind fun bt430 => ((spec_VarianceOf.f k bt424.1 bt424.2).bind fun bt434 => ((spec_DrawQuoteOf.f k l0).bind fun bt438 => ((impl_QuoteOf.f k bt438.1 bt438.2.1 bt438.2.2).bind fun bt443 => ((spec_QuoteOf.f k bt438.1 bt438.2.1 bt438.2.2).bind fun bt445 => ((spec_DrawWithPercent.f k l0).bind fun bt447 => ((impl_WithPercent.f bt447.1 bt447.2).bind fun bt449 => ((spec_WithPercent.f bt447.1 bt447.2).bind fun bt451 => ((impl_SumOfBill.f k t410).bind fun bt453 => ((spec_SumOfBill.f k t410).bind fun bt455 => (if bt416.2 = bt420.2 then ((laws_likeLines9.f k bt416.1 bt420.1).bind fun t457 => (if t457 = true then (if bt430.2 = bt434.2 then ((laws_likeInts.f k bt430.1 bt434.1).bind fun t458 => (if t458 = true then (if bt443.2 = bt445.2 then (if bt443.1 = bt445.1 then (if bt449.2 = bt451.2 then (if bt449.1 = bt451.1 then (if bt453.2 = bt455.2 then (if bt453.1 = bt455.1 then ((impl_IsBill.f k t410).bind fun t459 => (laws_FnBills.j0 k t411 bt416.1 bt416.2 bt424.1 bt424.2 bt430.1 bt430.2 bt438.1 bt443.1 bt443.2 bt447.1 bt447.2 bt449.1 bt449.2 bt453.1 (t459 != (bt455.2 == 0)))) else (laws_FnBills.j0 k t411 bt416.1 bt416.2 bt424.1 bt424.2 bt430.1 bt430.2 bt438.1 bt443.1 bt443.2 bt447.1 bt447.2 bt449.1 bt449.2 bt453.1 true)) else (laws_FnBills.j0 k t411 bt416.1 bt416.2 bt424.1 bt424.2 bt430.1 bt430.2 bt438.1 bt443.1 bt443.2 bt447.1 bt447.2 bt449.1 bt449.2 bt453.1 true)) else (laws_FnBills.j0 k t411 bt416.1 bt416.2 bt424.1 bt424.2 bt430.1 bt430.2 bt438.1 bt443.1 bt443.2 bt447.1 bt447.2 bt449.1 bt449.2 bt453.1 true)) else (laws_FnBills.j0 k t411 bt416.1 bt416.2 bt424.1 bt424.2 bt430.1 bt430.2 bt438.1 bt443.1 bt443.2 bt447.1 bt447.2 bt449.1 bt449.2 bt453.1 true)) else (laws_FnBills.j0 k t411 bt416.1 bt416.2 bt424.1 bt424.2 bt430.1 bt430.2 bt438.1 bt443.1 bt443.2 bt447.1 bt447.2 bt449.1 bt449.2 bt453.1 true)) else (laws_FnBills.j0 k t411 bt416.1 bt416.2 bt424.1 bt424.2 bt430.1 bt430.2 bt438.1 bt443.1 bt443.2 bt447.1 bt447.2 bt449.1 bt449.2 bt453.1 true)) else (laws_FnBills.j0 k t411 bt416.1 bt416.2 bt424.1 bt424.2 bt430.1 bt430.2 bt438.1 bt443.1 bt443.2 bt447.1 bt447.2 bt449.1 bt449.2 bt453.1 true))) else (laws_FnBills.j0 k t411 bt416.1 bt416.2 bt424.1 bt424.2 bt430.1 bt430.2 bt438.1 bt443.1 bt443.2 bt447.1 bt447.2 bt449.1 bt449.2 bt453.1 true)) else (laws_FnBills.j0 k t411 bt416.1 bt416.2 bt424.1 bt424.2 bt430.1 bt430.2 bt438.1 bt443.1 bt443.2 bt447.1 bt447.2 bt449.1 bt449.2 bt453.1 true))) else (laws_FnBills.j0 k t411 bt416.1 bt416.2 bt424.1 bt424.2 bt430.1 bt430.2 bt438.1 bt443.1 bt443.2 bt447.1 bt447.2 bt449.1 bt449.2 bt453.1 true))))))))))))))) = some r := H
    have A4 := Aside0.mk A40
    clear A40
    replace H := Option.bind_eq_some_iff.mp H
    obtain ⟨⟨t416, t419⟩, A50, H⟩ := H
    replace H : ((spec_MergeBills.f k t410 t411).bind fun bt420 => ((spec_DrawVarianceOf.f k l0).bind fun bt424 => ((impl_VarianceOf.f k bt424.1 bt424.2).bind fun bt430 => ((spec_VarianceOf.f k bt424.1 bt424.2).bind fun bt434 => ((spec_DrawQuoteOf.f k l0).bind fun bt438 => ((impl_QuoteOf.f k bt438.1 bt438.2.1 bt438.2.2).bind fun bt443 => ((spec_QuoteOf.f k bt438.1 bt438.2.1 bt438.2.2).bind fun bt445 => ((spec_DrawWithPercent.f k l0).bind fun bt447 => ((impl_WithPercent.f bt447.1 bt447.2).bind fun bt449 => ((spec_WithPercent.f bt447.1 bt447.2).bind fun bt451 => ((impl_SumOfBill.f k t410).bind fun bt453 => ((spec_SumOfBill.f k t410).bind fun bt455 => (if t419 = bt420.2 then ((laws_likeLines9.f k t416 bt420.1).bind fun t457 => (if t457 = true then (if bt430.2 = bt434.2 then ((laws_likeInts.f k bt430.1 bt434.1).bind fun t458 => (if t458 = true then (if bt443.2 = bt445.2 then (if bt443.1 = bt445.1 then (if bt449.2 = bt451.2 then (if bt449.1 = bt451.1 then (if bt453.2 = bt455.2 then (if bt453.1 = bt455.1 then ((impl_IsBill.f k t410).bind fun t459 => (laws_FnBills.j0 k t411 t416 t419 bt424.1 bt424.2 bt430.1 bt430.2 bt438.1 bt443.1 bt443.2 bt447.1 bt447.2 bt449.1 bt449.2 bt453.1 (t459 != (bt455.2 == 0)))) else (laws_FnBills.j0 k t411 t416 t419 bt424.1 bt424.2 bt430.1 bt430.2 bt438.1 bt443.1 bt443.2 bt447.1 bt447.2 bt449.1 bt449.2 bt453.1 true)) else (laws_FnBills.j0 k t411 t416 t419 bt424.1 bt424.2 bt430.1 bt430.2 bt438.1 bt443.1 bt443.2 bt447.1 bt447.2 bt449.1 bt449.2 bt453.1 true)) else (laws_FnBills.j0 k t411 t416 t419 bt424.1 bt424.2 bt430.1 bt430.2 bt438.1 bt443.1 bt443.2 bt447.1 bt447.2 bt449.1 bt449.2 bt453.1 true)) else (laws_FnBills.j0 k t411 t416 t419 bt424.1 bt424.2 bt430.1 bt430.2 bt438.1 bt443.1 bt443.2 bt447.1 bt447.2 bt449.1 bt449.2 bt453.1 true)) else (laws_FnBills.j0 k t411 t416 t419 bt424.1 bt424.2 bt430.1 bt430.2 bt438.1 bt443.1 bt443.2 bt447.1 bt447.2 bt449.1 bt449.2 bt453.1 true)) else (laws_FnBills.j0 k t411 t416 t419 bt424.1 bt424.2 bt430.1 bt430.2 bt438.1 bt443.1 bt443.2 bt447.1 bt447.2 bt449.1 bt449.2 bt453.1 true)) else (laws_FnBills.j0 k t411 t416 t419 bt424.1 bt424.2 bt430.1 bt430.2 bt438.1 bt443.1 bt443.2 bt447.1 bt447.2 bt449.1 bt449.2 bt453.1 true))) else (laws_FnBills.j0 k t411 t416 t419 bt424.1 bt424.2 bt430.1 bt430.2 bt438.1 bt443.1 bt443.2 bt447.1 bt447.2 bt449.1 bt449.2 bt453.1 true)) else (laws_FnBills.j0 k t411 t416 t419 bt424.1 bt424.2 bt430.1 bt430.2 bt438.1 bt443.1 bt443.2 bt447.1 bt447.2 bt449.1 bt449.2 bt453.1 true))) else (laws_FnBills.j0 k t411 t416 t419 bt424.1 bt424.2 bt430.1 bt430.2 bt438.1 bt443.1 bt443.2 bt447.1 bt447.2 bt449.1 bt449.2 bt453.1 true)))))))))))))) = some r := H
    have A5 := Aside0.mk A50
    clear A50
    replace H := Option.bind_eq_some_iff.mp H
    obtain ⟨⟨t420, t421⟩, A60, H⟩ := H
    replace H : ((spec_DrawVarianceOf.f k l0).bind fun bt424 => ((impl_VarianceOf.f k bt424.1 bt424.2).bind fun bt430 => ((spec_VarianceOf.f k bt424.1 bt424.2).bind fun bt434 => ((spec_DrawQuoteOf.f k l0).bind fun bt438 => ((impl_QuoteOf.f k bt438.1 bt438.2.1 bt438.2.2).bind fun bt443 => ((spec_QuoteOf.f k bt438.1 bt438.2.1 bt438.2.2).bind fun bt445 => ((spec_DrawWithPercent.f k l0).bind fun bt447 => ((impl_WithPercent.f bt447.1 bt447.2).bind fun bt449 => ((spec_WithPercent.f bt447.1 bt447.2).bind fun bt451 => ((impl_SumOfBill.f k t410).bind fun bt453 => ((spec_SumOfBill.f k t410).bind fun bt455 => (if t419 = t421 then ((laws_likeLines9.f k t416 t420).bind fun t457 => (if t457 = true then (if bt430.2 = bt434.2 then ((laws_likeInts.f k bt430.1 bt434.1).bind fun t458 => (if t458 = true then (if bt443.2 = bt445.2 then (if bt443.1 = bt445.1 then (if bt449.2 = bt451.2 then (if bt449.1 = bt451.1 then (if bt453.2 = bt455.2 then (if bt453.1 = bt455.1 then ((impl_IsBill.f k t410).bind fun t459 => (laws_FnBills.j0 k t411 t416 t419 bt424.1 bt424.2 bt430.1 bt430.2 bt438.1 bt443.1 bt443.2 bt447.1 bt447.2 bt449.1 bt449.2 bt453.1 (t459 != (bt455.2 == 0)))) else (laws_FnBills.j0 k t411 t416 t419 bt424.1 bt424.2 bt430.1 bt430.2 bt438.1 bt443.1 bt443.2 bt447.1 bt447.2 bt449.1 bt449.2 bt453.1 true)) else (laws_FnBills.j0 k t411 t416 t419 bt424.1 bt424.2 bt430.1 bt430.2 bt438.1 bt443.1 bt443.2 bt447.1 bt447.2 bt449.1 bt449.2 bt453.1 true)) else (laws_FnBills.j0 k t411 t416 t419 bt424.1 bt424.2 bt430.1 bt430.2 bt438.1 bt443.1 bt443.2 bt447.1 bt447.2 bt449.1 bt449.2 bt453.1 true)) else (laws_FnBills.j0 k t411 t416 t419 bt424.1 bt424.2 bt430.1 bt430.2 bt438.1 bt443.1 bt443.2 bt447.1 bt447.2 bt449.1 bt449.2 bt453.1 true)) else (laws_FnBills.j0 k t411 t416 t419 bt424.1 bt424.2 bt430.1 bt430.2 bt438.1 bt443.1 bt443.2 bt447.1 bt447.2 bt449.1 bt449.2 bt453.1 true)) else (laws_FnBills.j0 k t411 t416 t419 bt424.1 bt424.2 bt430.1 bt430.2 bt438.1 bt443.1 bt443.2 bt447.1 bt447.2 bt449.1 bt449.2 bt453.1 true)) else (laws_FnBills.j0 k t411 t416 t419 bt424.1 bt424.2 bt430.1 bt430.2 bt438.1 bt443.1 bt443.2 bt447.1 bt447.2 bt449.1 bt449.2 bt453.1 true))) else (laws_FnBills.j0 k t411 t416 t419 bt424.1 bt424.2 bt430.1 bt430.2 bt438.1 bt443.1 bt443.2 bt447.1 bt447.2 bt449.1 bt449.2 bt453.1 true)) else (laws_FnBills.j0 k t411 t416 t419 bt424.1 bt424.2 bt430.1 bt430.2 bt438.1 bt443.1 bt443.2 bt447.1 bt447.2 bt449.1 bt449.2 bt453.1 true))) else (laws_FnBills.j0 k t411 t416 t419 bt424.1 bt424.2 bt430.1 bt430.2 bt438.1 bt443.1 bt443.2 bt447.1 bt447.2 bt449.1 bt449.2 bt453.1 true))))))))))))) = some r := H
    have A6 := Aside0.mk A60
    clear A60
    replace H := Option.bind_eq_some_iff.mp H
    obtain ⟨⟨t424, t425⟩, A70, H⟩ := H
    replace H : ((impl_VarianceOf.f k t424 t425).bind fun bt430 => ((spec_VarianceOf.f k t424 t425).bind fun bt434 => ((spec_DrawQuoteOf.f k l0).bind fun bt438 => ((impl_QuoteOf.f k bt438.1 bt438.2.1 bt438.2.2).bind fun bt443 => ((spec_QuoteOf.f k bt438.1 bt438.2.1 bt438.2.2).bind fun bt445 => ((spec_DrawWithPercent.f k l0).bind fun bt447 => ((impl_WithPercent.f bt447.1 bt447.2).bind fun bt449 => ((spec_WithPercent.f bt447.1 bt447.2).bind fun bt451 => ((impl_SumOfBill.f k t410).bind fun bt453 => ((spec_SumOfBill.f k t410).bind fun bt455 => (if t419 = t421 then ((laws_likeLines9.f k t416 t420).bind fun t457 => (if t457 = true then (if bt430.2 = bt434.2 then ((laws_likeInts.f k bt430.1 bt434.1).bind fun t458 => (if t458 = true then (if bt443.2 = bt445.2 then (if bt443.1 = bt445.1 then (if bt449.2 = bt451.2 then (if bt449.1 = bt451.1 then (if bt453.2 = bt455.2 then (if bt453.1 = bt455.1 then ((impl_IsBill.f k t410).bind fun t459 => (laws_FnBills.j0 k t411 t416 t419 t424 t425 bt430.1 bt430.2 bt438.1 bt443.1 bt443.2 bt447.1 bt447.2 bt449.1 bt449.2 bt453.1 (t459 != (bt455.2 == 0)))) else (laws_FnBills.j0 k t411 t416 t419 t424 t425 bt430.1 bt430.2 bt438.1 bt443.1 bt443.2 bt447.1 bt447.2 bt449.1 bt449.2 bt453.1 true)) else (laws_FnBills.j0 k t411 t416 t419 t424 t425 bt430.1 bt430.2 bt438.1 bt443.1 bt443.2 bt447.1 bt447.2 bt449.1 bt449.2 bt453.1 true)) else (laws_FnBills.j0 k t411 t416 t419 t424 t425 bt430.1 bt430.2 bt438.1 bt443.1 bt443.2 bt447.1 bt447.2 bt449.1 bt449.2 bt453.1 true)) else (laws_FnBills.j0 k t411 t416 t419 t424 t425 bt430.1 bt430.2 bt438.1 bt443.1 bt443.2 bt447.1 bt447.2 bt449.1 bt449.2 bt453.1 true)) else (laws_FnBills.j0 k t411 t416 t419 t424 t425 bt430.1 bt430.2 bt438.1 bt443.1 bt443.2 bt447.1 bt447.2 bt449.1 bt449.2 bt453.1 true)) else (laws_FnBills.j0 k t411 t416 t419 t424 t425 bt430.1 bt430.2 bt438.1 bt443.1 bt443.2 bt447.1 bt447.2 bt449.1 bt449.2 bt453.1 true)) else (laws_FnBills.j0 k t411 t416 t419 t424 t425 bt430.1 bt430.2 bt438.1 bt443.1 bt443.2 bt447.1 bt447.2 bt449.1 bt449.2 bt453.1 true))) else (laws_FnBills.j0 k t411 t416 t419 t424 t425 bt430.1 bt430.2 bt438.1 bt443.1 bt443.2 bt447.1 bt447.2 bt449.1 bt449.2 bt453.1 true)) else (laws_FnBills.j0 k t411 t416 t419 t424 t425 bt430.1 bt430.2 bt438.1 bt443.1 bt443.2 bt447.1 bt447.2 bt449.1 bt449.2 bt453.1 true))) else (laws_FnBills.j0 k t411 t416 t419 t424 t425 bt430.1 bt430.2 bt438.1 bt443.1 bt443.2 bt447.1 bt447.2 bt449.1 bt449.2 bt453.1 true)))))))))))) = some r := H
    have A7 := Aside0.mk A70
    clear A70
    replace H := Option.bind_eq_some_iff.mp H
    obtain ⟨⟨t430, t431⟩, A80, H⟩ := H
    replace H : ((spec_VarianceOf.f k t424 t425).bind fun bt434 => ((spec_DrawQuoteOf.f k l0).bind fun bt438 => ((impl_QuoteOf.f k bt438.1 bt438.2.1 bt438.2.2).bind fun bt443 => ((spec_QuoteOf.f k bt438.1 bt438.2.1 bt438.2.2).bind fun bt445 => ((spec_DrawWithPercent.f k l0).bind fun bt447 => ((impl_WithPercent.f bt447.1 bt447.2).bind fun bt449 => ((spec_WithPercent.f bt447.1 bt447.2).bind fun bt451 => ((impl_SumOfBill.f k t410).bind fun bt453 => ((spec_SumOfBill.f k t410).bind fun bt455 => (if t419 = t421 then ((laws_likeLines9.f k t416 t420).bind fun t457 => (if t457 = true then (if t431 = bt434.2 then ((laws_likeInts.f k t430 bt434.1).bind fun t458 => (if t458 = true then (if bt443.2 = bt445.2 then (if bt443.1 = bt445.1 then (if bt449.2 = bt451.2 then (if bt449.1 = bt451.1 then (if bt453.2 = bt455.2 then (if bt453.1 = bt455.1 then ((impl_IsBill.f k t410).bind fun t459 => (laws_FnBills.j0 k t411 t416 t419 t424 t425 t430 t431 bt438.1 bt443.1 bt443.2 bt447.1 bt447.2 bt449.1 bt449.2 bt453.1 (t459 != (bt455.2 == 0)))) else (laws_FnBills.j0 k t411 t416 t419 t424 t425 t430 t431 bt438.1 bt443.1 bt443.2 bt447.1 bt447.2 bt449.1 bt449.2 bt453.1 true)) else (laws_FnBills.j0 k t411 t416 t419 t424 t425 t430 t431 bt438.1 bt443.1 bt443.2 bt447.1 bt447.2 bt449.1 bt449.2 bt453.1 true)) else (laws_FnBills.j0 k t411 t416 t419 t424 t425 t430 t431 bt438.1 bt443.1 bt443.2 bt447.1 bt447.2 bt449.1 bt449.2 bt453.1 true)) else (laws_FnBills.j0 k t411 t416 t419 t424 t425 t430 t431 bt438.1 bt443.1 bt443.2 bt447.1 bt447.2 bt449.1 bt449.2 bt453.1 true)) else (laws_FnBills.j0 k t411 t416 t419 t424 t425 t430 t431 bt438.1 bt443.1 bt443.2 bt447.1 bt447.2 bt449.1 bt449.2 bt453.1 true)) else (laws_FnBills.j0 k t411 t416 t419 t424 t425 t430 t431 bt438.1 bt443.1 bt443.2 bt447.1 bt447.2 bt449.1 bt449.2 bt453.1 true)) else (laws_FnBills.j0 k t411 t416 t419 t424 t425 t430 t431 bt438.1 bt443.1 bt443.2 bt447.1 bt447.2 bt449.1 bt449.2 bt453.1 true))) else (laws_FnBills.j0 k t411 t416 t419 t424 t425 t430 t431 bt438.1 bt443.1 bt443.2 bt447.1 bt447.2 bt449.1 bt449.2 bt453.1 true)) else (laws_FnBills.j0 k t411 t416 t419 t424 t425 t430 t431 bt438.1 bt443.1 bt443.2 bt447.1 bt447.2 bt449.1 bt449.2 bt453.1 true))) else (laws_FnBills.j0 k t411 t416 t419 t424 t425 t430 t431 bt438.1 bt443.1 bt443.2 bt447.1 bt447.2 bt449.1 bt449.2 bt453.1 true))))))))))) = some r := H
    have A8 := Aside0.mk A80
    clear A80
    replace H := Option.bind_eq_some_iff.mp H
    obtain ⟨⟨t434, t435⟩, A90, H⟩ := H
    replace H : ((spec_DrawQuoteOf.f k l0).bind fun bt438 => ((impl_QuoteOf.f k bt438.1 bt438.2.1 bt438.2.2).bind fun bt443 => ((spec_QuoteOf.f k bt438.1 bt438.2.1 bt438.2.2).bind fun bt445 => ((spec_DrawWithPercent.f k l0).bind fun bt447 => ((impl_WithPercent.f bt447.1 bt447.2).bind fun bt449 => ((spec_WithPercent.f bt447.1 bt447.2).bind fun bt451 => ((impl_SumOfBill.f k t410).bind fun bt453 => ((spec_SumOfBill.f k t410).bind fun bt455 => (if t419 = t421 then ((laws_likeLines9.f k t416 t420).bind fun t457 => (if t457 = true then (if t431 = t435 then ((laws_likeInts.f k t430 t434).bind fun t458 => (if t458 = true then (if bt443.2 = bt445.2 then (if bt443.1 = bt445.1 then (if bt449.2 = bt451.2 then (if bt449.1 = bt451.1 then (if bt453.2 = bt455.2 then (if bt453.1 = bt455.1 then ((impl_IsBill.f k t410).bind fun t459 => (laws_FnBills.j0 k t411 t416 t419 t424 t425 t430 t431 bt438.1 bt443.1 bt443.2 bt447.1 bt447.2 bt449.1 bt449.2 bt453.1 (t459 != (bt455.2 == 0)))) else (laws_FnBills.j0 k t411 t416 t419 t424 t425 t430 t431 bt438.1 bt443.1 bt443.2 bt447.1 bt447.2 bt449.1 bt449.2 bt453.1 true)) else (laws_FnBills.j0 k t411 t416 t419 t424 t425 t430 t431 bt438.1 bt443.1 bt443.2 bt447.1 bt447.2 bt449.1 bt449.2 bt453.1 true)) else (laws_FnBills.j0 k t411 t416 t419 t424 t425 t430 t431 bt438.1 bt443.1 bt443.2 bt447.1 bt447.2 bt449.1 bt449.2 bt453.1 true)) else (laws_FnBills.j0 k t411 t416 t419 t424 t425 t430 t431 bt438.1 bt443.1 bt443.2 bt447.1 bt447.2 bt449.1 bt449.2 bt453.1 true)) else (laws_FnBills.j0 k t411 t416 t419 t424 t425 t430 t431 bt438.1 bt443.1 bt443.2 bt447.1 bt447.2 bt449.1 bt449.2 bt453.1 true)) else (laws_FnBills.j0 k t411 t416 t419 t424 t425 t430 t431 bt438.1 bt443.1 bt443.2 bt447.1 bt447.2 bt449.1 bt449.2 bt453.1 true)) else (laws_FnBills.j0 k t411 t416 t419 t424 t425 t430 t431 bt438.1 bt443.1 bt443.2 bt447.1 bt447.2 bt449.1 bt449.2 bt453.1 true))) else (laws_FnBills.j0 k t411 t416 t419 t424 t425 t430 t431 bt438.1 bt443.1 bt443.2 bt447.1 bt447.2 bt449.1 bt449.2 bt453.1 true)) else (laws_FnBills.j0 k t411 t416 t419 t424 t425 t430 t431 bt438.1 bt443.1 bt443.2 bt447.1 bt447.2 bt449.1 bt449.2 bt453.1 true))) else (laws_FnBills.j0 k t411 t416 t419 t424 t425 t430 t431 bt438.1 bt443.1 bt443.2 bt447.1 bt447.2 bt449.1 bt449.2 bt453.1 true)))))))))) = some r := H
    have A9 := Aside0.mk A90
    clear A90
    replace H := Option.bind_eq_some_iff.mp H
    obtain ⟨⟨t438, t439, t440⟩, A100, H⟩ := H
    replace H : ((impl_QuoteOf.f k t438 t439 t440).bind fun bt443 => ((spec_QuoteOf.f k t438 t439 t440).bind fun bt445 => ((spec_DrawWithPercent.f k l0).bind fun bt447 => ((impl_WithPercent.f bt447.1 bt447.2).bind fun bt449 => ((spec_WithPercent.f bt447.1 bt447.2).bind fun bt451 => ((impl_SumOfBill.f k t410).bind fun bt453 => ((spec_SumOfBill.f k t410).bind fun bt455 => (if t419 = t421 then ((laws_likeLines9.f k t416 t420).bind fun t457 => (if t457 = true then (if t431 = t435 then ((laws_likeInts.f k t430 t434).bind fun t458 => (if t458 = true then (if bt443.2 = bt445.2 then (if bt443.1 = bt445.1 then (if bt449.2 = bt451.2 then (if bt449.1 = bt451.1 then (if bt453.2 = bt455.2 then (if bt453.1 = bt455.1 then ((impl_IsBill.f k t410).bind fun t459 => (laws_FnBills.j0 k t411 t416 t419 t424 t425 t430 t431 t438 bt443.1 bt443.2 bt447.1 bt447.2 bt449.1 bt449.2 bt453.1 (t459 != (bt455.2 == 0)))) else (laws_FnBills.j0 k t411 t416 t419 t424 t425 t430 t431 t438 bt443.1 bt443.2 bt447.1 bt447.2 bt449.1 bt449.2 bt453.1 true)) else (laws_FnBills.j0 k t411 t416 t419 t424 t425 t430 t431 t438 bt443.1 bt443.2 bt447.1 bt447.2 bt449.1 bt449.2 bt453.1 true)) else (laws_FnBills.j0 k t411 t416 t419 t424 t425 t430 t431 t438 bt443.1 bt443.2 bt447.1 bt447.2 bt449.1 bt449.2 bt453.1 true)) else (laws_FnBills.j0 k t411 t416 t419 t424 t425 t430 t431 t438 bt443.1 bt443.2 bt447.1 bt447.2 bt449.1 bt449.2 bt453.1 true)) else (laws_FnBills.j0 k t411 t416 t419 t424 t425 t430 t431 t438 bt443.1 bt443.2 bt447.1 bt447.2 bt449.1 bt449.2 bt453.1 true)) else (laws_FnBills.j0 k t411 t416 t419 t424 t425 t430 t431 t438 bt443.1 bt443.2 bt447.1 bt447.2 bt449.1 bt449.2 bt453.1 true)) else (laws_FnBills.j0 k t411 t416 t419 t424 t425 t430 t431 t438 bt443.1 bt443.2 bt447.1 bt447.2 bt449.1 bt449.2 bt453.1 true))) else (laws_FnBills.j0 k t411 t416 t419 t424 t425 t430 t431 t438 bt443.1 bt443.2 bt447.1 bt447.2 bt449.1 bt449.2 bt453.1 true)) else (laws_FnBills.j0 k t411 t416 t419 t424 t425 t430 t431 t438 bt443.1 bt443.2 bt447.1 bt447.2 bt449.1 bt449.2 bt453.1 true))) else (laws_FnBills.j0 k t411 t416 t419 t424 t425 t430 t431 t438 bt443.1 bt443.2 bt447.1 bt447.2 bt449.1 bt449.2 bt453.1 true))))))))) = some r := H
    have A10 := Aside0.mk A100
    clear A100
    replace H := Option.bind_eq_some_iff.mp H
    obtain ⟨⟨t443, t444⟩, A110, H⟩ := H
    replace H : ((spec_QuoteOf.f k t438 t439 t440).bind fun bt445 => ((spec_DrawWithPercent.f k l0).bind fun bt447 => ((impl_WithPercent.f bt447.1 bt447.2).bind fun bt449 => ((spec_WithPercent.f bt447.1 bt447.2).bind fun bt451 => ((impl_SumOfBill.f k t410).bind fun bt453 => ((spec_SumOfBill.f k t410).bind fun bt455 => (if t419 = t421 then ((laws_likeLines9.f k t416 t420).bind fun t457 => (if t457 = true then (if t431 = t435 then ((laws_likeInts.f k t430 t434).bind fun t458 => (if t458 = true then (if t444 = bt445.2 then (if t443 = bt445.1 then (if bt449.2 = bt451.2 then (if bt449.1 = bt451.1 then (if bt453.2 = bt455.2 then (if bt453.1 = bt455.1 then ((impl_IsBill.f k t410).bind fun t459 => (laws_FnBills.j0 k t411 t416 t419 t424 t425 t430 t431 t438 t443 t444 bt447.1 bt447.2 bt449.1 bt449.2 bt453.1 (t459 != (bt455.2 == 0)))) else (laws_FnBills.j0 k t411 t416 t419 t424 t425 t430 t431 t438 t443 t444 bt447.1 bt447.2 bt449.1 bt449.2 bt453.1 true)) else (laws_FnBills.j0 k t411 t416 t419 t424 t425 t430 t431 t438 t443 t444 bt447.1 bt447.2 bt449.1 bt449.2 bt453.1 true)) else (laws_FnBills.j0 k t411 t416 t419 t424 t425 t430 t431 t438 t443 t444 bt447.1 bt447.2 bt449.1 bt449.2 bt453.1 true)) else (laws_FnBills.j0 k t411 t416 t419 t424 t425 t430 t431 t438 t443 t444 bt447.1 bt447.2 bt449.1 bt449.2 bt453.1 true)) else (laws_FnBills.j0 k t411 t416 t419 t424 t425 t430 t431 t438 t443 t444 bt447.1 bt447.2 bt449.1 bt449.2 bt453.1 true)) else (laws_FnBills.j0 k t411 t416 t419 t424 t425 t430 t431 t438 t443 t444 bt447.1 bt447.2 bt449.1 bt449.2 bt453.1 true)) else (laws_FnBills.j0 k t411 t416 t419 t424 t425 t430 t431 t438 t443 t444 bt447.1 bt447.2 bt449.1 bt449.2 bt453.1 true))) else (laws_FnBills.j0 k t411 t416 t419 t424 t425 t430 t431 t438 t443 t444 bt447.1 bt447.2 bt449.1 bt449.2 bt453.1 true)) else (laws_FnBills.j0 k t411 t416 t419 t424 t425 t430 t431 t438 t443 t444 bt447.1 bt447.2 bt449.1 bt449.2 bt453.1 true))) else (laws_FnBills.j0 k t411 t416 t419 t424 t425 t430 t431 t438 t443 t444 bt447.1 bt447.2 bt449.1 bt449.2 bt453.1 true)))))))) = some r := H
    have A11 := Aside0.mk A110
    clear A110
    replace H := Option.bind_eq_some_iff.mp H
    obtain ⟨⟨t445, t446⟩, A120, H⟩ := H
    replace H : ((spec_DrawWithPercent.f k l0).bind fun bt447 => ((impl_WithPercent.f bt447.1 bt447.2).bind fun bt449 => ((spec_WithPercent.f bt447.1 bt447.2).bind fun bt451 => ((impl_SumOfBill.f k t410).bind fun bt453 => ((spec_SumOfBill.f k t410).bind fun bt455 => (if t419 = t421 then ((laws_likeLines9.f k t416 t420).bind fun t457 => (if t457 = true then (if t431 = t435 then ((laws_likeInts.f k t430 t434).bind fun t458 => (if t458 = true then (if t444 = t446 then (if t443 = t445 then (if bt449.2 = bt451.2 then (if bt449.1 = bt451.1 then (if bt453.2 = bt455.2 then (if bt453.1 = bt455.1 then ((impl_IsBill.f k t410).bind fun t459 => (laws_FnBills.j0 k t411 t416 t419 t424 t425 t430 t431 t438 t443 t444 bt447.1 bt447.2 bt449.1 bt449.2 bt453.1 (t459 != (bt455.2 == 0)))) else (laws_FnBills.j0 k t411 t416 t419 t424 t425 t430 t431 t438 t443 t444 bt447.1 bt447.2 bt449.1 bt449.2 bt453.1 true)) else (laws_FnBills.j0 k t411 t416 t419 t424 t425 t430 t431 t438 t443 t444 bt447.1 bt447.2 bt449.1 bt449.2 bt453.1 true)) else (laws_FnBills.j0 k t411 t416 t419 t424 t425 t430 t431 t438 t443 t444 bt447.1 bt447.2 bt449.1 bt449.2 bt453.1 true)) else (laws_FnBills.j0 k t411 t416 t419 t424 t425 t430 t431 t438 t443 t444 bt447.1 bt447.2 bt449.1 bt449.2 bt453.1 true)) else (laws_FnBills.j0 k t411 t416 t419 t424 t425 t430 t431 t438 t443 t444 bt447.1 bt447.2 bt449.1 bt449.2 bt453.1 true)) else (laws_FnBills.j0 k t411 t416 t419 t424 t425 t430 t431 t438 t443 t444 bt447.1 bt447.2 bt449.1 bt449.2 bt453.1 true)) else (laws_FnBills.j0 k t411 t416 t419 t424 t425 t430 t431 t438 t443 t444 bt447.1 bt447.2 bt449.1 bt449.2 bt453.1 true))) else (laws_FnBills.j0 k t411 t416 t419 t424 t425 t430 t431 t438 t443 t444 bt447.1 bt447.2 bt449.1 bt449.2 bt453.1 true)) else (laws_FnBills.j0 k t411 t416 t419 t424 t425 t430 t431 t438 t443 t444 bt447.1 bt447.2 bt449.1 bt449.2 bt453.1 true))) else (laws_FnBills.j0 k t411 t416 t419 t424 t425 t430 t431 t438 t443 t444 bt447.1 bt447.2 bt449.1 bt449.2 bt453.1 true))))))) = some r := H
    have A12 := Aside0.mk A120
    clear A120
    replace H := Option.bind_eq_some_iff.mp H
    obtain ⟨⟨t447, t448⟩, A130, H⟩ := H
    replace H : ((impl_WithPercent.f t447 t448).bind fun bt449 => ((spec_WithPercent.f t447 t448).bind fun bt451 => ((impl_SumOfBill.f k t410).bind fun bt453 => ((spec_SumOfBill.f k t410).bind fun bt455 => (if t419 = t421 then ((laws_likeLines9.f k t416 t420).bind fun t457 => (if t457 = true then (if t431 = t435 then ((laws_likeInts.f k t430 t434).bind fun t458 => (if t458 = true then (if t444 = t446 then (if t443 = t445 then (if bt449.2 = bt451.2 then (if bt449.1 = bt451.1 then (if bt453.2 = bt455.2 then (if bt453.1 = bt455.1 then ((impl_IsBill.f k t410).bind fun t459 => (laws_FnBills.j0 k t411 t416 t419 t424 t425 t430 t431 t438 t443 t444 t447 t448 bt449.1 bt449.2 bt453.1 (t459 != (bt455.2 == 0)))) else (laws_FnBills.j0 k t411 t416 t419 t424 t425 t430 t431 t438 t443 t444 t447 t448 bt449.1 bt449.2 bt453.1 true)) else (laws_FnBills.j0 k t411 t416 t419 t424 t425 t430 t431 t438 t443 t444 t447 t448 bt449.1 bt449.2 bt453.1 true)) else (laws_FnBills.j0 k t411 t416 t419 t424 t425 t430 t431 t438 t443 t444 t447 t448 bt449.1 bt449.2 bt453.1 true)) else (laws_FnBills.j0 k t411 t416 t419 t424 t425 t430 t431 t438 t443 t444 t447 t448 bt449.1 bt449.2 bt453.1 true)) else (laws_FnBills.j0 k t411 t416 t419 t424 t425 t430 t431 t438 t443 t444 t447 t448 bt449.1 bt449.2 bt453.1 true)) else (laws_FnBills.j0 k t411 t416 t419 t424 t425 t430 t431 t438 t443 t444 t447 t448 bt449.1 bt449.2 bt453.1 true)) else (laws_FnBills.j0 k t411 t416 t419 t424 t425 t430 t431 t438 t443 t444 t447 t448 bt449.1 bt449.2 bt453.1 true))) else (laws_FnBills.j0 k t411 t416 t419 t424 t425 t430 t431 t438 t443 t444 t447 t448 bt449.1 bt449.2 bt453.1 true)) else (laws_FnBills.j0 k t411 t416 t419 t424 t425 t430 t431 t438 t443 t444 t447 t448 bt449.1 bt449.2 bt453.1 true))) else (laws_FnBills.j0 k t411 t416 t419 t424 t425 t430 t431 t438 t443 t444 t447 t448 bt449.1 bt449.2 bt453.1 true)))))) = some r := H
    have A13 := Aside0.mk A130
    clear A130
    replace H := Option.bind_eq_some_iff.mp H
    obtain ⟨⟨t449, t450⟩, A140, H⟩ := H
    replace H : ((spec_WithPercent.f t447 t448).bind fun bt451 => ((impl_SumOfBill.f k t410).bind fun bt453 => ((spec_SumOfBill.f k t410).bind fun bt455 => (if t419 = t421 then ((laws_likeLines9.f k t416 t420).bind fun t457 => (if t457 = true then (if t431 = t435 then ((laws_likeInts.f k t430 t434).bind fun t458 => (if t458 = true then (if t444 = t446 then (if t443 = t445 then (if t450 = bt451.2 then (if t449 = bt451.1 then (if bt453.2 = bt455.2 then (if bt453.1 = bt455.1 then ((impl_IsBill.f k t410).bind fun t459 => (laws_FnBills.j0 k t411 t416 t419 t424 t425 t430 t431 t438 t443 t444 t447 t448 t449 t450 bt453.1 (t459 != (bt455.2 == 0)))) else (laws_FnBills.j0 k t411 t416 t419 t424 t425 t430 t431 t438 t443 t444 t447 t448 t449 t450 bt453.1 true)) else (laws_FnBills.j0 k t411 t416 t419 t424 t425 t430 t431 t438 t443 t444 t447 t448 t449 t450 bt453.1 true)) else (laws_FnBills.j0 k t411 t416 t419 t424 t425 t430 t431 t438 t443 t444 t447 t448 t449 t450 bt453.1 true)) else (laws_FnBills.j0 k t411 t416 t419 t424 t425 t430 t431 t438 t443 t444 t447 t448 t449 t450 bt453.1 true)) else (laws_FnBills.j0 k t411 t416 t419 t424 t425 t430 t431 t438 t443 t444 t447 t448 t449 t450 bt453.1 true)) else (laws_FnBills.j0 k t411 t416 t419 t424 t425 t430 t431 t438 t443 t444 t447 t448 t449 t450 bt453.1 true)) else (laws_FnBills.j0 k t411 t416 t419 t424 t425 t430 t431 t438 t443 t444 t447 t448 t449 t450 bt453.1 true))) else (laws_FnBills.j0 k t411 t416 t419 t424 t425 t430 t431 t438 t443 t444 t447 t448 t449 t450 bt453.1 true)) else (laws_FnBills.j0 k t411 t416 t419 t424 t425 t430 t431 t438 t443 t444 t447 t448 t449 t450 bt453.1 true))) else (laws_FnBills.j0 k t411 t416 t419 t424 t425 t430 t431 t438 t443 t444 t447 t448 t449 t450 bt453.1 true))))) = some r := H
    have A14 := Aside0.mk A140
    clear A140
    replace H := Option.bind_eq_some_iff.mp H
    obtain ⟨⟨t451, t452⟩, A150, H⟩ := H
    replace H : ((impl_SumOfBill.f k t410).bind fun bt453 => ((spec_SumOfBill.f k t410).bind fun bt455 => (if t419 = t421 then ((laws_likeLines9.f k t416 t420).bind fun t457 => (if t457 = true then (if t431 = t435 then ((laws_likeInts.f k t430 t434).bind fun t458 => (if t458 = true then (if t444 = t446 then (if t443 = t445 then (if t450 = t452 then (if t449 = t451 then (if bt453.2 = bt455.2 then (if bt453.1 = bt455.1 then ((impl_IsBill.f k t410).bind fun t459 => (laws_FnBills.j0 k t411 t416 t419 t424 t425 t430 t431 t438 t443 t444 t447 t448 t449 t450 bt453.1 (t459 != (bt455.2 == 0)))) else (laws_FnBills.j0 k t411 t416 t419 t424 t425 t430 t431 t438 t443 t444 t447 t448 t449 t450 bt453.1 true)) else (laws_FnBills.j0 k t411 t416 t419 t424 t425 t430 t431 t438 t443 t444 t447 t448 t449 t450 bt453.1 true)) else (laws_FnBills.j0 k t411 t416 t419 t424 t425 t430 t431 t438 t443 t444 t447 t448 t449 t450 bt453.1 true)) else (laws_FnBills.j0 k t411 t416 t419 t424 t425 t430 t431 t438 t443 t444 t447 t448 t449 t450 bt453.1 true)) else (laws_FnBills.j0 k t411 t416 t419 t424 t425 t430 t431 t438 t443 t444 t447 t448 t449 t450 bt453.1 true)) else (laws_FnBills.j0 k t411 t416 t419 t424 t425 t430 t431 t438 t443 t444 t447 t448 t449 t450 bt453.1 true)) else (laws_FnBills.j0 k t411 t416 t419 t424 t425 t430 t431 t438 t443 t444 t447 t448 t449 t450 bt453.1 true))) else (laws_FnBills.j0 k t411 t416 t419 t424 t425 t430 t431 t438 t443 t444 t447 t448 t449 t450 bt453.1 true)) else (laws_FnBills.j0 k t411 t416 t419 t424 t425 t430 t431 t438 t443 t444 t447 t448 t449 t450 bt453.1 true))) else (laws_FnBills.j0 k t411 t416 t419 t424 t425 t430 t431 t438 t443 t444 t447 t448 t449 t450 bt453.1 true)))) = some r := H
    have A15 := Aside0.mk A150
    clear A150
    replace H := Option.bind_eq_some_iff.mp H
    obtain ⟨⟨t453, t454⟩, A160, H⟩ := H
    replace H : ((spec_SumOfBill.f k t410).bind fun bt455 => (if t419 = t421 then ((laws_likeLines9.f k t416 t420).bind fun t457 => (if t457 = true then (if t431 = t435 then ((laws_likeInts.f k t430 t434).bind fun t458 => (if t458 = true then (if t444 = t446 then (if t443 = t445 then (if t450 = t452 then (if t449 = t451 then (if t454 = bt455.2 then (if t453 = bt455.1 then ((impl_IsBill.f k t410).bind fun t459 => (laws_FnBills.j0 k t411 t416 t419 t424 t425 t430 t431 t438 t443 t444 t447 t448 t449 t450 t453 (t459 != (bt455.2 == 0)))) else (laws_FnBills.j0 k t411 t416 t419 t424 t425 t430 t431 t438 t443 t444 t447 t448 t449 t450 t453 true)) else (laws_FnBills.j0 k t411 t416 t419 t424 t425 t430 t431 t438 t443 t444 t447 t448 t449 t450 t453 true)) else (laws_FnBills.j0 k t411 t416 t419 t424 t425 t430 t431 t438 t443 t444 t447 t448 t449 t450 t453 true)) else (laws_FnBills.j0 k t411 t416 t419 t424 t425 t430 t431 t438 t443 t444 t447 t448 t449 t450 t453 true)) else (laws_FnBills.j0 k t411 t416 t419 t424 t425 t430 t431 t438 t443 t444 t447 t448 t449 t450 t453 true)) else (laws_FnBills.j0 k t411 t416 t419 t424 t425 t430 t431 t438 t443 t444 t447 t448 t449 t450 t453 true)) else (laws_FnBills.j0 k t411 t416 t419 t424 t425 t430 t431 t438 t443 t444 t447 t448 t449 t450 t453 true))) else (laws_FnBills.j0 k t411 t416 t419 t424 t425 t430 t431 t438 t443 t444 t447 t448 t449 t450 t453 true)) else (laws_FnBills.j0 k t411 t416 t419 t424 t425 t430 t431 t438 t443 t444 t447 t448 t449 t450 t453 true))) else (laws_FnBills.j0 k t411 t416 t419 t424 t425 t430 t431 t438 t443 t444 t447 t448 t449 t450 t453 true))) = some r := H
    have A16 := Aside0.mk A160
    clear A160
    replace H := Option.bind_eq_some_iff.mp H
    obtain ⟨⟨t455, t456⟩, A170, H⟩ := H
    replace H : (if t419 = t421 then ((laws_likeLines9.f k t416 t420).bind fun t457 => (if t457 = true then (if t431 = t435 then ((laws_likeInts.f k t430 t434).bind fun t458 => (if t458 = true then (if t444 = t446 then (if t443 = t445 then (if t450 = t452 then (if t449 = t451 then (if t454 = t456 then (if t453 = t455 then ((impl_IsBill.f k t410).bind fun t459 => (laws_FnBills.j0 k t411 t416 t419 t424 t425 t430 t431 t438 t443 t444 t447 t448 t449 t450 t453 (t459 != (t456 == 0)))) else (laws_FnBills.j0 k t411 t416 t419 t424 t425 t430 t431 t438 t443 t444 t447 t448 t449 t450 t453 true)) else (laws_FnBills.j0 k t411 t416 t419 t424 t425 t430 t431 t438 t443 t444 t447 t448 t449 t450 t453 true)) else (laws_FnBills.j0 k t411 t416 t419 t424 t425 t430 t431 t438 t443 t444 t447 t448 t449 t450 t453 true)) else (laws_FnBills.j0 k t411 t416 t419 t424 t425 t430 t431 t438 t443 t444 t447 t448 t449 t450 t453 true)) else (laws_FnBills.j0 k t411 t416 t419 t424 t425 t430 t431 t438 t443 t444 t447 t448 t449 t450 t453 true)) else (laws_FnBills.j0 k t411 t416 t419 t424 t425 t430 t431 t438 t443 t444 t447 t448 t449 t450 t453 true)) else (laws_FnBills.j0 k t411 t416 t419 t424 t425 t430 t431 t438 t443 t444 t447 t448 t449 t450 t453 true))) else (laws_FnBills.j0 k t411 t416 t419 t424 t425 t430 t431 t438 t443 t444 t447 t448 t449 t450 t453 true)) else (laws_FnBills.j0 k t411 t416 t419 t424 t425 t430 t431 t438 t443 t444 t447 t448 t449 t450 t453 true))) else (laws_FnBills.j0 k t411 t416 t419 t424 t425 t430 t431 t438 t443 t444 t447 t448 t449 t450 t453 true)) = some r := H
    have A17 := Aside0.mk A170
    clear A170
    have HC18 := Aside0.mk H
    clear H
    go_enter Try.func7, Try.ntmps7
    go_upto_region 17 with (first | ((with_reducible refine gate_callee (f := 33) rfl ?_); refine goesL_ (some 43) rfl rfl Try.func33 (by kernel_rfl) rfl #[.slice A0 l0.length c0] rfl (by (try simp only [List.map_toArray, List.map_cons, List.map_nil]); first | done | rfl | (simp only [List.length_drop, List.length_take]; rfl)) ?_; (with_reducible refine (laws_big.calls _ _ l0 false _ ?side1 ?side2 A2.out).mono ?_); (case side1 => repeat (first | exact HR0.out | (with_reducible refine Kd.C_alloc ?_ _) | (with_reducible refine Kd.C_drewN ?_ _) | (with_reducible refine Kd.C_drew ?_))); (case side2 => exact HC0.out); rintro e w' ⟨rfl, ⟨nd, rfl⟩⟩; refine ⟨_, rfl, ?_⟩) | ((with_reducible refine gate_callee (f := 52) rfl ?_); refine goesL_ (some 46) rfl rfl Try.func52 (by kernel_rfl) rfl #[.slice A0 l0.length c0] rfl (by (try simp only [List.map_toArray, List.map_cons, List.map_nil]); first | done | rfl | (simp only [List.length_drop, List.length_take]; rfl)) ?_; (with_reducible refine (spec_DrawMergeBills.calls k _ _ l0 t410 t411 _ ?side1 ?side2 A4.out).mono ?_); (case side1 => repeat (first | exact HR0.out | (with_reducible refine Kd.C_alloc ?_ _) | (with_reducible refine Kd.C_drewN ?_ _) | (with_reducible refine Kd.C_drew ?_))); (case side2 => exact HC0.out); rintro e w19 ⟨v412, v414, rfl, ho0, ho1, hb⟩; refine ⟨_, rfl, ?_⟩; have n0_ := Aside0.mk (Kd.R_lower ho0 (below_size (by repeat (first | (with_reducible first | exact HB.out | apply below_alloc | apply pw_below_drewN | apply below_drew1) | exact HB.out)))); have n1_ := Aside0.mk (Kd.R_lower ho1 (below_size (by repeat (first | (with_reducible first | exact HB.out | apply below_alloc | apply pw_below_drewN | apply below_drew1) | exact HB.out)))); have n2_ := Aside0.mk (below_step (by repeat (first | (with_reducible first | exact HB.out | apply below_alloc | apply pw_below_drewN | apply below_drew1) | exact HB.out)) hb); clear HB; have HO413 := n0_; have HO415 := n1_; have HB := n2_; clear n0_ n1_ n2_; (try clear hb); (try clear hb2); (try clear hk); (try clear hi); (try clear ho0); (try clear ho1); obtain ⟨Ao20, co20, eo20⟩ := Kd.R_slice HO413.out; subst eo20; obtain ⟨Ao21, co21, eo21⟩ := Kd.R_slice HO415.out; subst eo21) | ((with_reducible refine gate_callee (f := 53) rfl ?_); refine goesL_ (some 52) rfl rfl Try.func53 (by kernel_rfl) rfl #[.slice Ao20 t410.length co20, .slice Ao21 t411.length co21] rfl (by (try simp only [List.map_toArray, List.map_cons, List.map_nil]); first | done | rfl | (simp only [List.length_drop, List.length_take]; rfl)) ?_; (with_reducible refine (impl_MergeBills.calls k (fun k_ => some k_ = (.slice Ao20 t410.length co20 : Value).ownBlock) _ _ t410 (fun k_ => some k_ = (.slice Ao21 t411.length co21 : Value).ownBlock) _ _ t411 t416 t419 _ ?side1 ?side2 A5.out).mono ?_); (case side1 => exact Kd.R_V (Kd.R_tight rfl (HO413.out))); (case side2 => exact Kd.R_V (Kd.R_tight rfl (HO415.out))); rintro e w22 ⟨v417, rfl, ho0, hb⟩; refine ⟨_, rfl, ?_⟩; have n0_ := Aside0.mk (Kd.R_elder' (by (with_reducible repeat (first | apply Kd.R_alloc | apply Kd.R_drewN | apply Kd.R_drew)); exact HO413.out) (Kd.R_base ho0) hb); have n1_ := Aside0.mk (Kd.R_elder' (by (with_reducible repeat (first | apply Kd.R_alloc | apply Kd.R_drewN | apply Kd.R_drew)); exact HO415.out) (Kd.R_base ho0) hb); have n2_ := Aside0.mk (Kd.R_lower (Kd.R_new' (Kd.R_new' (Kd.R_mono (ok' := fun k_ => True) ho0 (fun _ hk_ => trivial)) (Kd.R_lt (by (with_reducible repeat (first | apply Kd.R_alloc | apply Kd.R_drewN | apply Kd.R_drew)); exact HO413.out))) (Kd.R_lt (by (with_reducible repeat (first | apply Kd.R_alloc | apply Kd.R_drewN | apply Kd.R_drew)); exact HO415.out))) (below_size (by repeat (first | (with_reducible first | exact HB.out | apply below_alloc | apply pw_below_drewN | apply below_drew1) | exact HB.out)))); have n3_ := Aside0.mk (below_step (by repeat (first | (with_reducible first | exact HB.out | apply below_alloc | apply pw_below_drewN | apply below_drew1) | exact HB.out)) hb); clear HO413; clear HO415; clear HB; have HO413 := n0_; have HO415 := n1_; have HO418 := n2_; have HB := n3_; clear n0_ n1_ n2_ n3_; (try clear hb); (try clear hb2); (try clear hk); (try clear hi); (try clear ho0)) | ((with_reducible refine gate_callee (f := 54) rfl ?_); refine goesL_ (some 58) rfl rfl Try.func54 (by kernel_rfl) rfl #[.slice Ao20 t410.length co20, .slice Ao21 t411.length co21] rfl (by (try simp only [List.map_toArray, List.map_cons, List.map_nil]); first | done | rfl | (simp only [List.length_drop, List.length_take]; rfl)) ?_; (with_reducible refine (spec_MergeBills.calls k _ _ t410 _ _ t411 t420 t421 _ ?side1 ?side2 ?side3 ?side4 A6.out).mono ?_); (case side1 => repeat (first | exact (Kd.R_reads' HO413.out).2.2 | (with_reducible refine Kd.C_alloc ?_ _) | (with_reducible refine Kd.C_drewN ?_ _) | (with_reducible refine Kd.C_drew ?_))); (case side2 => exact (Kd.R_reads' HO413.out).2.1); (case side3 => repeat (first | exact (Kd.R_reads' HO415.out).2.2 | (with_reducible refine Kd.C_alloc ?_ _) | (with_reducible refine Kd.C_drewN ?_ _) | (with_reducible refine Kd.C_drew ?_))); (case side4 => exact (Kd.R_reads' HO415.out).2.1); rintro e w23 ⟨v422, rfl, ho0, hb⟩; refine ⟨_, rfl, ?_⟩; have n0_ := Aside0.mk (Kd.R_elder' (by (with_reducible repeat (first | apply Kd.R_alloc | apply Kd.R_drewN | apply Kd.R_drew)); exact HO413.out) (Kd.R_base ho0) hb); have n1_ := Aside0.mk (Kd.R_elder' (by (with_reducible repeat (first | apply Kd.R_alloc | apply Kd.R_drewN | apply Kd.R_drew)); exact HO415.out) (Kd.R_base ho0) hb); have n2_ := Aside0.mk (Kd.R_elder' (by (with_reducible repeat (first | apply Kd.R_alloc | apply Kd.R_drewN | apply Kd.R_drew)); exact HO418.out) (Kd.R_base ho0) hb); have n3_ := Aside0.mk (Kd.R_lower (Kd.R_new' (Kd.R_new' (Kd.R_new' ho0 (Kd.R_lt (by (with_reducible repeat (first | apply Kd.R_alloc | apply Kd.R_drewN | apply Kd.R_drew)); exact HO413.out))) (Kd.R_lt (by (with_reducible repeat (first | apply Kd.R_alloc | apply Kd.R_drewN | apply Kd.R_drew)); exact HO415.out))) (Kd.R_lt (by (with_reducible repeat (first | apply Kd.R_alloc | apply Kd.R_drewN | apply Kd.R_drew)); exact HO418.out))) (below_size (by repeat (first | (with_reducible first | exact HB.out | apply below_alloc | apply pw_below_drewN | apply below_drew1) | exact HB.out)))); have n4_ := Aside0.mk (below_step (by repeat (first | (with_reducible first | exact HB.out | apply below_alloc | apply pw_below_drewN | apply below_drew1) | exact HB.out)) hb); clear HO413; clear HO415; clear HO418; clear HB; have HO413 := n0_; have HO415 := n1_; have HO418 := n2_; have HO423 := n3_; have HB := n4_; clear n0_ n1_ n2_ n3_ n4_; (try clear hb); (try clear hb2); (try clear hk); (try clear hi); (try clear ho0)) | ((with_reducible refine gate_callee (f := 55) rfl ?_); refine goesL_ (some 63) rfl rfl Try.func55 (by kernel_rfl) rfl #[.slice A0 l0.length c0] rfl (by (try simp only [List.map_toArray, List.map_cons, List.map_nil]); first | done | rfl | (simp only [List.length_drop, List.length_take]; rfl)) ?_; (with_reducible refine (spec_DrawVarianceOf.calls k _ _ l0 t424 t425 _ ?side1 ?side2 A7.out).mono ?_); (case side1 => repeat (first | exact (Kd.C_below HR0.out HB.out) | (with_reducible refine Kd.C_alloc ?_ _) | (with_reducible refine Kd.C_drewN ?_ _) | (with_reducible refine Kd.C_drew ?_))); (case side2 => exact HC0.out); rintro e w24 ⟨v426, v428, rfl, ho0, ho1, hb⟩; refine ⟨_, rfl, ?_⟩; have n0_ := Aside0.mk (Kd.R_mono (Kd.R_told (Kd.R_told (Kd.R_old (by (with_reducible repeat (first | apply Kd.R_alloc | apply Kd.R_drewN | apply Kd.R_drew)); exact HO413.out) hb) (Kd.R_base ho0)) (Kd.R_base ho1)) (fun _ h_ => h_.1)); have n1_ := Aside0.mk (Kd.R_mono (Kd.R_told (Kd.R_told (Kd.R_old (by (with_reducible repeat (first | apply Kd.R_alloc | apply Kd.R_drewN | apply Kd.R_drew)); exact HO415.out) hb) (Kd.R_base ho0)) (Kd.R_base ho1)) (fun _ h_ => h_.1)); have n2_ := Aside0.mk (Kd.R_mono (Kd.R_told (Kd.R_told (Kd.R_old (by (with_reducible repeat (first | apply Kd.R_alloc | apply Kd.R_drewN | apply Kd.R_drew)); exact HO418.out) hb) (Kd.R_base ho0)) (Kd.R_base ho1)) (fun _ h_ => h_.1)); have n3_ := Aside0.mk (Kd.R_mono (Kd.R_told (Kd.R_told (Kd.R_old (by (with_reducible repeat (first | apply Kd.R_alloc | apply Kd.R_drewN | apply Kd.R_drew)); exact HO423.out) hb) (Kd.R_base ho0)) (Kd.R_base ho1)) (fun _ h_ => h_.1)); have n4_ := Aside0.mk (Kd.R_lower (Kd.R_new' (Kd.R_new' (Kd.R_new' (Kd.R_new' ho0 (Kd.R_lt (by (with_reducible repeat (first | apply Kd.R_alloc | apply Kd.R_drewN | apply Kd.R_drew)); exact HO413.out))) (Kd.R_lt (by (with_reducible repeat (first | apply Kd.R_alloc | apply Kd.R_drewN | apply Kd.R_drew)); exact HO415.out))) (Kd.R_lt (by (with_reducible repeat (first | apply Kd.R_alloc | apply Kd.R_drewN | apply Kd.R_drew)); exact HO418.out))) (Kd.R_lt (by (with_reducible repeat (first | apply Kd.R_alloc | apply Kd.R_drewN | apply Kd.R_drew)); exact HO423.out))) (below_size (by repeat (first | (with_reducible first | exact HB.out | apply below_alloc | apply pw_below_drewN | apply below_drew1) | exact HB.out)))); have n5_ := Aside0.mk (Kd.R_lower (Kd.R_new' (Kd.R_new' (Kd.R_new' (Kd.R_new' ho1 (Kd.R_lt (by (with_reducible repeat (first | apply Kd.R_alloc | apply Kd.R_drewN | apply Kd.R_drew)); exact HO413.out))) (Kd.R_lt (by (with_reducible repeat (first | apply Kd.R_alloc | apply Kd.R_drewN | apply Kd.R_drew)); exact HO415.out))) (Kd.R_lt (by (with_reducible repeat (first | apply Kd.R_alloc | apply Kd.R_drewN | apply Kd.R_drew)); exact HO418.out))) (Kd.R_lt (by (with_reducible repeat (first | apply Kd.R_alloc | apply Kd.R_drewN | apply Kd.R_drew)); exact HO423.out))) (below_size (by repeat (first | (with_reducible first | exact HB.out | apply below_alloc | apply pw_below_drewN | apply below_drew1) | exact HB.out)))); have n6_ := Aside0.mk (below_step (by repeat (first | (with_reducible first | exact HB.out | apply below_alloc | apply pw_below_drewN | apply below_drew1) | exact HB.out)) hb); clear HO413; clear HO415; clear HO418; clear HO423; clear HB; have HO413 := n0_; have HO415 := n1_; have HO418 := n2_; have HO423 := n3_; have HO427 := n4_; have HO429 := n5_; have HB := n6_; clear n0_ n1_ n2_ n3_ n4_ n5_ n6_; (try clear hb); (try clear hb2); (try clear hk); (try clear hi); (try clear ho0); (try clear ho1); obtain ⟨Ao25, co25, eo25⟩ := Kd.R_slice HO427.out; subst eo25; obtain ⟨Ao26, co26, eo26⟩ := Kd.R_slice HO429.out; subst eo26) | ((with_reducible refine gate_callee (f := 56) rfl ?_); refine goesL_ (some 69) rfl rfl Try.func56 (by kernel_rfl) rfl #[.slice Ao25 t424.length co25, .slice Ao26 t425.length co26] rfl (by (try simp only [List.map_toArray, List.map_cons, List.map_nil]); first | done | rfl | (simp only [List.length_drop, List.length_take]; rfl)) ?_; (with_reducible refine (impl_VarianceOf.calls k _ _ t424 _ _ t425 t430 t431 _ ?side1 ?side2 ?side3 ?side4 A8.out).mono ?_); (case side1 => repeat (first | exact (Kd.R_reads' HO427.out).2.2 | (with_reducible refine Kd.C_alloc ?_ _) | (with_reducible refine Kd.C_drewN ?_ _) | (with_reducible refine Kd.C_drew ?_))); (case side2 => exact (Kd.R_reads' HO427.out).2.1); (case side3 => repeat (first | exact (Kd.R_reads' HO429.out).2.2 | (with_reducible refine Kd.C_alloc ?_ _) | (with_reducible refine Kd.C_drewN ?_ _) | (with_reducible refine Kd.C_drew ?_))); (case side4 => exact (Kd.R_reads' HO429.out).2.1); rintro e w27 ⟨v432, rfl, ho0, hb⟩; refine ⟨_, rfl, ?_⟩; have n0_ := Aside0.mk (Kd.R_below (by (with_reducible repeat (first | apply Kd.R_alloc | apply Kd.R_drewN | apply Kd.R_drew)); exact HO413.out) hb); have n1_ := Aside0.mk (Kd.R_below (by (with_reducible repeat (first | apply Kd.R_alloc | apply Kd.R_drewN | apply Kd.R_drew)); exact HO415.out) hb); have n2_ := Aside0.mk (Kd.R_below (by (with_reducible repeat (first | apply Kd.R_alloc | apply Kd.R_drewN | apply Kd.R_drew)); exact HO418.out) hb); have n3_ := Aside0.mk (Kd.R_below (by (with_reducible repeat (first | apply Kd.R_alloc | apply Kd.R_drewN | apply Kd.R_drew)); exact HO423.out) hb); have n4_ := Aside0.mk (Kd.R_below (by (with_reducible repeat (first | apply Kd.R_alloc | apply Kd.R_drewN | apply Kd.R_drew)); exact HO427.out) hb); have n5_ := Aside0.mk (Kd.R_below (by (with_reducible repeat (first | apply Kd.R_alloc | apply Kd.R_drewN | apply Kd.R_drew)); exact HO429.out) hb); have n6_ := Aside0.mk (Kd.R_lower ho0 (below_size (by repeat (first | (with_reducible first | exact HB.out | apply below_alloc | apply pw_below_drewN | apply below_drew1) | exact HB.out)))); have n7_ := Aside0.mk (below_step (by repeat (first | (with_reducible first | exact HB.out | apply below_alloc | apply pw_below_drewN | apply below_drew1) | exact HB.out)) hb); clear HO413; clear HO415; clear HO418; clear HO423; clear HO427; clear HO429; clear HB; have HO413 := n0_; have HO415 := n1_; have HO418 := n2_; have HO423 := n3_; have HO427 := n4_; have HO429 := n5_; have HO433 := n6_; have HB := n7_; clear n0_ n1_ n2_ n3_ n4_ n5_ n6_ n7_; (try clear hb); (try clear hb2); (try clear hk); (try clear hi); (try clear ho0)) | ((with_reducible refine gate_callee (f := 57) rfl ?_); refine goesL_ (some 75) rfl rfl Try.func57 (by kernel_rfl) rfl #[.slice Ao25 t424.length co25, .slice Ao26 t425.length co26] rfl (by (try simp only [List.map_toArray, List.map_cons, List.map_nil]); first | done | rfl | (simp only [List.length_drop, List.length_take]; rfl)) ?_; (with_reducible refine (spec_VarianceOf.calls k _ _ t424 _ _ t425 t434 t435 _ ?side1 ?side2 ?side3 ?side4 A9.out).mono ?_); (case side1 => repeat (first | exact (Kd.R_reads' HO427.out).2.2 | (with_reducible refine Kd.C_alloc ?_ _) | (with_reducible refine Kd.C_drewN ?_ _) | (with_reducible refine Kd.C_drew ?_))); (case side2 => exact (Kd.R_reads' HO427.out).2.1); (case side3 => repeat (first | exact (Kd.R_reads' HO429.out).2.2 | (with_reducible refine Kd.C_alloc ?_ _) | (with_reducible refine Kd.C_drewN ?_ _) | (with_reducible refine Kd.C_drew ?_))); (case side4 => exact (Kd.R_reads' HO429.out).2.1); rintro e w28 ⟨v436, rfl, ho0, hb⟩; refine ⟨_, rfl, ?_⟩; have n0_ := Aside0.mk (Kd.R_below (by (with_reducible repeat (first | apply Kd.R_alloc | apply Kd.R_drewN | apply Kd.R_drew)); exact HO413.out) hb); have n1_ := Aside0.mk (Kd.R_below (by (with_reducible repeat (first | apply Kd.R_alloc | apply Kd.R_drewN | apply Kd.R_drew)); exact HO415.out) hb); have n2_ := Aside0.mk (Kd.R_below (by (with_reducible repeat (first | apply Kd.R_alloc | apply Kd.R_drewN | apply Kd.R_drew)); exact HO418.out) hb); have n3_ := Aside0.mk (Kd.R_below (by (with_reducible repeat (first | apply Kd.R_alloc | apply Kd.R_drewN | apply Kd.R_drew)); exact HO423.out) hb); have n4_ := Aside0.mk (Kd.R_below (by (with_reducible repeat (first | apply Kd.R_alloc | apply Kd.R_drewN | apply Kd.R_drew)); exact HO427.out) hb); have n5_ := Aside0.mk (Kd.R_below (by (with_reducible repeat (first | apply Kd.R_alloc | apply Kd.R_drewN | apply Kd.R_drew)); exact HO429.out) hb); have n6_ := Aside0.mk (Kd.R_elder' (by (with_reducible repeat (first | apply Kd.R_alloc | apply Kd.R_drewN | apply Kd.R_drew)); exact HO433.out) (Kd.R_base ho0) hb); have n7_ := Aside0.mk (Kd.R_lower (Kd.R_new' ho0 (Kd.R_lt (by (with_reducible repeat (first | apply Kd.R_alloc | apply Kd.R_drewN | apply Kd.R_drew)); exact HO433.out))) (below_size (by repeat (first | (with_reducible first | exact HB.out | apply below_alloc | apply pw_below_drewN | apply below_drew1) | exact HB.out)))); have n8_ := Aside0.mk (below_step (by repeat (first | (with_reducible first | exact HB.out | apply below_alloc | apply pw_below_drewN | apply below_drew1) | exact HB.out)) hb); clear HO413; clear HO415; clear HO418; clear HO423; clear HO427; clear HO429; clear HO433; clear HB; have HO413 := n0_; have HO415 := n1_; have HO418 := n2_; have HO423 := n3_; have HO427 := n4_; have HO429 := n5_; have HO433 := n6_; have HO437 := n7_; have HB := n8_; clear n0_ n1_ n2_ n3_ n4_ n5_ n6_ n7_ n8_; (try clear hb); (try clear hb2); (try clear hk); (try clear hi); (try clear ho0)) | ((with_reducible refine gate_callee (f := 58) rfl ?_); refine goesL_ (some 80) rfl rfl Try.func58 (by kernel_rfl) rfl #[.slice A0 l0.length c0] rfl (by (try simp only [List.map_toArray, List.map_cons, List.map_nil]); first | done | rfl | (simp only [List.length_drop, List.length_take]; rfl)) ?_; (with_reducible refine (spec_DrawQuoteOf.calls k _ _ l0 t438 t439 t440 _ ?side1 ?side2 A10.out).mono ?_); (case side1 => repeat (first | exact (Kd.C_below HR0.out HB.out) | (with_reducible refine Kd.C_alloc ?_ _) | (with_reducible refine Kd.C_drewN ?_ _) | (with_reducible refine Kd.C_drew ?_))); (case side2 => exact HC0.out); rintro e w29 ⟨v441, rfl, ho0, hb⟩; refine ⟨_, rfl, ?_⟩; have n0_ := Aside0.mk (Kd.R_elder' (by (with_reducible repeat (first | apply Kd.R_alloc | apply Kd.R_drewN | apply Kd.R_drew)); exact HO413.out) (Kd.R_base ho0) hb); have n1_ := Aside0.mk (Kd.R_elder' (by (with_reducible repeat (first | apply Kd.R_alloc | apply Kd.R_drewN | apply Kd.R_drew)); exact HO415.out) (Kd.R_base ho0) hb); have n2_ := Aside0.mk (Kd.R_elder' (by (with_reducible repeat (first | apply Kd.R_alloc | apply Kd.R_drewN | apply Kd.R_drew)); exact HO418.out) (Kd.R_base ho0) hb); have n3_ := Aside0.mk (Kd.R_elder' (by (with_reducible repeat (first | apply Kd.R_alloc | apply Kd.R_drewN | apply Kd.R_drew)); exact HO423.out) (Kd.R_base ho0) hb); have n4_ := Aside0.mk (Kd.R_elder' (by (with_reducible repeat (first | apply Kd.R_alloc | apply Kd.R_drewN | apply Kd.R_drew)); exact HO427.out) (Kd.R_base ho0) hb); have n5_ := Aside0.mk (Kd.R_elder' (by (with_reducible repeat (first | apply Kd.R_alloc | apply Kd.R_drewN | apply Kd.R_drew)); exact HO429.out) (Kd.R_base ho0) hb); have n6_ := Aside0.mk (Kd.R_below (by (with_reducible repeat (first | apply Kd.R_alloc | apply Kd.R_drewN | apply Kd.R_drew)); exact HO433.out) hb); have n7_ := Aside0.mk (Kd.R_below (by (with_reducible repeat (first | apply Kd.R_alloc | apply Kd.R_drewN | apply Kd.R_drew)); exact HO437.out) hb); have n8_ := Aside0.mk (Kd.R_lower (Kd.R_new' (Kd.R_new' (Kd.R_new' (Kd.R_new' (Kd.R_new' (Kd.R_new' ho0 (Kd.R_lt (by (with_reducible repeat (first | apply Kd.R_alloc | apply Kd.R_drewN | apply Kd.R_drew)); exact HO413.out))) (Kd.R_lt (by (with_reducible repeat (first | apply Kd.R_alloc | apply Kd.R_drewN | apply Kd.R_drew)); exact HO415.out))) (Kd.R_lt (by (with_reducible repeat (first | apply Kd.R_alloc | apply Kd.R_drewN | apply Kd.R_drew)); exact HO418.out))) (Kd.R_lt (by (with_reducible repeat (first | apply Kd.R_alloc | apply Kd.R_drewN | apply Kd.R_drew)); exact HO423.out))) (Kd.R_lt (by (with_reducible repeat (first | apply Kd.R_alloc | apply Kd.R_drewN | apply Kd.R_drew)); exact HO427.out))) (Kd.R_lt (by (with_reducible repeat (first | apply Kd.R_alloc | apply Kd.R_drewN | apply Kd.R_drew)); exact HO429.out))) (below_size (by repeat (first | (with_reducible first | exact HB.out | apply below_alloc | apply pw_below_drewN | apply below_drew1) | exact HB.out)))); have n9_ := Aside0.mk (below_step (by repeat (first | (with_reducible first | exact HB.out | apply below_alloc | apply pw_below_drewN | apply below_drew1) | exact HB.out)) hb); clear HO413; clear HO415; clear HO418; clear HO423; clear HO427; clear HO429; clear HO433; clear HO437; clear HB; have HO413 := n0_; have HO415 := n1_; have HO418 := n2_; have HO423 := n3_; have HO427 := n4_; have HO429 := n5_; have HO433 := n6_; have HO437 := n7_; have HO442 := n8_; have HB := n9_; clear n0_ n1_ n2_ n3_ n4_ n5_ n6_ n7_ n8_ n9_; (try clear hb); (try clear hb2); (try clear hk); (try clear hi); (try clear ho0); obtain ⟨Ao30, co30, eo30⟩ := Kd.R_slice HO442.out; subst eo30) | ((with_reducible refine gate_callee (f := 59) rfl ?_); refine goesL_ (some 88) rfl rfl Try.func59 (by kernel_rfl) rfl #[.slice Ao30 t438.length co30, .int .i64 t439, .int .i64 t440] rfl (by (try simp only [List.map_toArray, List.map_cons, List.map_nil]); first | done | rfl | (simp only [List.length_drop, List.length_take]; rfl)) ?_; (with_reducible refine (impl_QuoteOf.calls k _ _ t438 t439 t440 t443 t444 _ ?side1 ?side2 A11.out).mono ?_); (case side1 => repeat (first | exact (Kd.R_reads' HO442.out).2.2 | (with_reducible refine Kd.C_alloc ?_ _) | (with_reducible refine Kd.C_drewN ?_ _) | (with_reducible refine Kd.C_drew ?_))); (case side2 => exact (Kd.R_reads' HO442.out).2.1); rintro e w31 ⟨rfl, hb⟩; refine ⟨_, rfl, ?_⟩; have n0_ := Aside0.mk (Kd.R_below (by (with_reducible repeat (first | apply Kd.R_alloc | apply Kd.R_drewN | apply Kd.R_drew)); exact HO413.out) hb); have n1_ := Aside0.mk (Kd.R_below (by (with_reducible repeat (first | apply Kd.R_alloc | apply Kd.R_drewN | apply Kd.R_drew)); exact HO415.out) hb); have n2_ := Aside0.mk (Kd.R_below (by (with_reducible repeat (first | apply Kd.R_alloc | apply Kd.R_drewN | apply Kd.R_drew)); exact HO418.out) hb); have n3_ := Aside0.mk (Kd.R_below (by (with_reducible repeat (first | apply Kd.R_alloc | apply Kd.R_drewN | apply Kd.R_drew)); exact HO423.out) hb); have n4_ := Aside0.mk (Kd.R_below (by (with_reducible repeat (first | apply Kd.R_alloc | apply Kd.R_drewN | apply Kd.R_drew)); exact HO427.out) hb); have n5_ := Aside0.mk (Kd.R_below (by (with_reducible repeat (first | apply Kd.R_alloc | apply Kd.R_drewN | apply Kd.R_drew)); exact HO429.out) hb); have n6_ := Aside0.mk (Kd.R_below (by (with_reducible repeat (first | apply Kd.R_alloc | apply Kd.R_drewN | apply Kd.R_drew)); exact HO433.out) hb); have n7_ := Aside0.mk (Kd.R_below (by (with_reducible repeat (first | apply Kd.R_alloc | apply Kd.R_drewN | apply Kd.R_drew)); exact HO437.out) hb); have n8_ := Aside0.mk (Kd.R_below (by (with_reducible repeat (first | apply Kd.R_alloc | apply Kd.R_drewN | apply Kd.R_drew)); exact HO442.out) hb); have n9_ := Aside0.mk (below_step (by repeat (first | (with_reducible first | exact HB.out | apply below_alloc | apply pw_below_drewN | apply below_drew1) | exact HB.out)) hb); clear HO413; clear HO415; clear HO418; clear HO423; clear HO427; clear HO429; clear HO433; clear HO437; clear HO442; clear HB; have HO413 := n0_; have HO415 := n1_; have HO418 := n2_; have HO423 := n3_; have HO427 := n4_; have HO429 := n5_; have HO433 := n6_; have HO437 := n7_; have HO442 := n8_; have HB := n9_; clear n0_ n1_ n2_ n3_ n4_ n5_ n6_ n7_ n8_ n9_; (try clear hb); (try clear hb2); (try clear hk); (try clear hi)) | ((with_reducible refine gate_callee (f := 60) rfl ?_); refine goesL_ (some 95) rfl rfl Try.func60 (by kernel_rfl) rfl #[.slice Ao30 t438.length co30, .int .i64 t439, .int .i64 t440] rfl (by (try simp only [List.map_toArray, List.map_cons, List.map_nil]); first | done | rfl | (simp only [List.length_drop, List.length_take]; rfl)) ?_; (with_reducible refine (spec_QuoteOf.calls k _ _ t438 t439 t440 t445 t446 _ ?side1 ?side2 A12.out).mono ?_); (case side1 => repeat (first | exact (Kd.R_reads' HO442.out).2.2 | (with_reducible refine Kd.C_alloc ?_ _) | (with_reducible refine Kd.C_drewN ?_ _) | (with_reducible refine Kd.C_drew ?_))); (case side2 => exact (Kd.R_reads' HO442.out).2.1); rintro e w' ⟨rfl, ⟨nd, rfl⟩⟩; refine ⟨_, rfl, ?_⟩) | ((with_reducible refine gate_callee (f := 61) rfl ?_); refine goesL_ (some 100) rfl rfl Try.func61 (by kernel_rfl) rfl #[.slice A0 l0.length c0] rfl (by (try simp only [List.map_toArray, List.map_cons, List.map_nil]); first | done | rfl | (simp only [List.length_drop, List.length_take]; rfl)) ?_; (with_reducible refine (spec_DrawWithPercent.calls k _ _ l0 t447 t448 _ ?side1 ?side2 A13.out).mono ?_); (case side1 => repeat (first | exact (Kd.C_below HR0.out (by repeat (first | (with_reducible first | exact HB.out | apply below_alloc | apply pw_below_drewN | apply below_drew1) | exact HB.out))) | (with_reducible refine Kd.C_alloc ?_ _) | (with_reducible refine Kd.C_drewN ?_ _) | (with_reducible refine Kd.C_drew ?_))); (case side2 => exact HC0.out); rintro e w32 ⟨rfl, hb⟩; refine ⟨_, rfl, ?_⟩; have n0_ := Aside0.mk (Kd.R_below (by (with_reducible repeat (first | apply Kd.R_alloc | apply Kd.R_drewN | apply Kd.R_drew)); exact HO413.out) hb); have n1_ := Aside0.mk (Kd.R_below (by (with_reducible repeat (first | apply Kd.R_alloc | apply Kd.R_drewN | apply Kd.R_drew)); exact HO415.out) hb); have n2_ := Aside0.mk (Kd.R_below (by (with_reducible repeat (first | apply Kd.R_alloc | apply Kd.R_drewN | apply Kd.R_drew)); exact HO418.out) hb); have n3_ := Aside0.mk (Kd.R_below (by (with_reducible repeat (first | apply Kd.R_alloc | apply Kd.R_drewN | apply Kd.R_drew)); exact HO423.out) hb); have n4_ := Aside0.mk (Kd.R_below (by (with_reducible repeat (first | apply Kd.R_alloc | apply Kd.R_drewN | apply Kd.R_drew)); exact HO427.out) hb); have n5_ := Aside0.mk (Kd.R_below (by (with_reducible repeat (first | apply Kd.R_alloc | apply Kd.R_drewN | apply Kd.R_drew)); exact HO429.out) hb); have n6_ := Aside0.mk (Kd.R_below (by (with_reducible repeat (first | apply Kd.R_alloc | apply Kd.R_drewN | apply Kd.R_drew)); exact HO433.out) hb); have n7_ := Aside0.mk (Kd.R_below (by (with_reducible repeat (first | apply Kd.R_alloc | apply Kd.R_drewN | apply Kd.R_drew)); exact HO437.out) hb); have n8_ := Aside0.mk (Kd.R_below (by (with_reducible repeat (first | apply Kd.R_alloc | apply Kd.R_drewN | apply Kd.R_drew)); exact HO442.out) hb); have n9_ := Aside0.mk (below_step (by repeat (first | (with_reducible first | exact HB.out | apply below_alloc | apply pw_below_drewN | apply below_drew1) | exact HB.out)) hb); clear HO413; clear HO415; clear HO418; clear HO423; clear HO427; clear HO429; clear HO433; clear HO437; clear HO442; clear HB; have HO413 := n0_; have HO415 := n1_; have HO418 := n2_; have HO423 := n3_; have HO427 := n4_; have HO429 := n5_; have HO433 := n6_; have HO437 := n7_; have HO442 := n8_; have HB := n9_; clear n0_ n1_ n2_ n3_ n4_ n5_ n6_ n7_ n8_ n9_; (try clear hb); (try clear hb2); (try clear hk); (try clear hi)) | ((with_reducible refine gate_callee (f := 62) rfl ?_); refine goesL_ (some 106) rfl rfl Try.func62 (by kernel_rfl) rfl #[.int .i64 t447, .int .i64 t448] rfl (by (try simp only [List.map_toArray, List.map_cons, List.map_nil]); first | done | rfl | (simp only [List.length_drop, List.length_take]; rfl)) ?_; (with_reducible refine (impl_WithPercent.calls t447 t448 t449 t450 _ A14.out).mono ?_); rintro e w' ⟨rfl, ⟨nd, rfl⟩⟩; refine ⟨_, rfl, ?_⟩) | ((with_reducible refine gate_callee (f := 63) rfl ?_); refine goesL_ (some 112) rfl rfl Try.func63 (by kernel_rfl) rfl #[.int .i64 t447, .int .i64 t448] rfl (by (try simp only [List.map_toArray, List.map_cons, List.map_nil]); first | done | rfl | (simp only [List.length_drop, List.length_take]; rfl)) ?_; (with_reducible refine (spec_WithPercent.calls t447 t448 t451 t452 _ A15.out).mono ?_); rintro e w' ⟨rfl, ⟨nd, rfl⟩⟩; refine ⟨_, rfl, ?_⟩) | ((with_reducible refine gate_callee (f := 64) rfl ?_); refine goesL_ (some 117) rfl rfl Try.func64 (by kernel_rfl) rfl #[.slice Ao20 t410.length co20] rfl (by (try simp only [List.map_toArray, List.map_cons, List.map_nil]); first | done | rfl | (simp only [List.length_drop, List.length_take]; rfl)) ?_; (with_reducible refine (impl_SumOfBill.calls k _ _ t410 t453 t454 _ ?side1 ?side2 A16.out).mono ?_); (case side1 => repeat (first | exact (Kd.R_reads' HO413.out).2.2 | (with_reducible refine Kd.C_alloc ?_ _) | (with_reducible refine Kd.C_drewN ?_ _) | (with_reducible refine Kd.C_drew ?_))); (case side2 => exact (Kd.R_reads' HO413.out).2.1); rintro e w33 ⟨rfl, hb⟩; refine ⟨_, rfl, ?_⟩; have n0_ := Aside0.mk (Kd.R_below (by (with_reducible repeat (first | apply Kd.R_alloc | apply Kd.R_drewN | apply Kd.R_drew)); exact HO413.out) hb); have n1_ := Aside0.mk (Kd.R_below (by (with_reducible repeat (first | apply Kd.R_alloc | apply Kd.R_drewN | apply Kd.R_drew)); exact HO415.out) hb); have n2_ := Aside0.mk (Kd.R_below (by (with_reducible repeat (first | apply Kd.R_alloc | apply Kd.R_drewN | apply Kd.R_drew)); exact HO418.out) hb); have n3_ := Aside0.mk (Kd.R_below (by (with_reducible repeat (first | apply Kd.R_alloc | apply Kd.R_drewN | apply Kd.R_drew)); exact HO423.out) hb); have n4_ := Aside0.mk (Kd.R_below (by (with_reducible repeat (first | apply Kd.R_alloc | apply Kd.R_drewN | apply Kd.R_drew)); exact HO427.out) hb); have n5_ := Aside0.mk (Kd.R_below (by (with_reducible repeat (first | apply Kd.R_alloc | apply Kd.R_drewN | apply Kd.R_drew)); exact HO429.out) hb); have n6_ := Aside0.mk (Kd.R_below (by (with_reducible repeat (first | apply Kd.R_alloc | apply Kd.R_drewN | apply Kd.R_drew)); exact HO433.out) hb); have n7_ := Aside0.mk (Kd.R_below (by (with_reducible repeat (first | apply Kd.R_alloc | apply Kd.R_drewN | apply Kd.R_drew)); exact HO437.out) hb); have n8_ := Aside0.mk (Kd.R_below (by (with_reducible repeat (first | apply Kd.R_alloc | apply Kd.R_drewN | apply Kd.R_drew)); exact HO442.out) hb); have n9_ := Aside0.mk (below_step (by repeat (first | (with_reducible first | exact HB.out | apply below_alloc | apply pw_below_drewN | apply below_drew1) | exact HB.out)) hb); clear HO413; clear HO415; clear HO418; clear HO423; clear HO427; clear HO429; clear HO433; clear HO437; clear HO442; clear HB; have HO413 := n0_; have HO415 := n1_; have HO418 := n2_; have HO423 := n3_; have HO427 := n4_; have HO429 := n5_; have HO433 := n6_; have HO437 := n7_; have HO442 := n8_; have HB := n9_; clear n0_ n1_ n2_ n3_ n4_ n5_ n6_ n7_ n8_ n9_; (try clear hb); (try clear hb2); (try clear hk); (try clear hi)) | ((with_reducible refine gate_callee (f := 65) rfl ?_); refine goesL_ (some 122) rfl rfl Try.func65 (by kernel_rfl) rfl #[.slice Ao20 t410.length co20] rfl (by (try simp only [List.map_toArray, List.map_cons, List.map_nil]); first | done | rfl | (simp only [List.length_drop, List.length_take]; rfl)) ?_; (with_reducible refine (spec_SumOfBill.calls k _ _ t410 t455 t456 _ ?side1 ?side2 A17.out).mono ?_); (case side1 => repeat (first | exact (Kd.R_reads' HO413.out).2.2 | (with_reducible refine Kd.C_alloc ?_ _) | (with_reducible refine Kd.C_drewN ?_ _) | (with_reducible refine Kd.C_drew ?_))); (case side2 => exact (Kd.R_reads' HO413.out).2.1); rintro e w' ⟨rfl, ⟨nd, rfl⟩⟩; refine ⟨_, rfl, ?_⟩))
    (try simp only [Act.put, List.setIfInBounds_toArray, List.set_cons_zero, List.set_cons_succ])
    go_cut [181] (fun v181 wc => ∃ (kq : Nat) (x181_17 : Bool), v181 = .bool x181_17 ∧ Aside0 (laws_FnBills.j0 kq t411 t416 t419 t424 t425 t430 t431 t438 t443 t444 t447 t448 t449 t450 t453 x181_17 = some r) ∧ Aside0 (kq ≤ k) ∧ Aside0 (Kd.R k107 107 wc w.heap.size (fun k_ => some k_ ≠ (v417 : Value).ownBlock ∧ some k_ ≠ ((.slice Ao25 t424.length co25) : Value).ownBlock ∧ some k_ ≠ ((.slice Ao26 t425.length co26) : Value).ownBlock ∧ some k_ ≠ ((.slice Ao30 t438.length co30) : Value).ownBlock) (.slice Ao21 t411.length co21) t411) ∧ Aside0 (Kd.R k107 107 wc w.heap.size (fun k_ => some k_ ≠ ((.slice Ao21 t411.length co21) : Value).ownBlock ∧ some k_ ≠ ((.slice Ao25 t424.length co25) : Value).ownBlock ∧ some k_ ≠ ((.slice Ao26 t425.length co26) : Value).ownBlock ∧ some k_ ≠ ((.slice Ao30 t438.length co30) : Value).ownBlock) v417 t416) ∧ Aside0 (Kd.R k107 107 wc w.heap.size (fun k_ => some k_ ≠ ((.slice Ao21 t411.length co21) : Value).ownBlock ∧ some k_ ≠ (v417 : Value).ownBlock ∧ some k_ ≠ ((.slice Ao26 t425.length co26) : Value).ownBlock ∧ some k_ ≠ ((.slice Ao30 t438.length co30) : Value).ownBlock) (.slice Ao25 t424.length co25) t424) ∧ Aside0 (Kd.R k107 107 wc w.heap.size (fun k_ => some k_ ≠ ((.slice Ao21 t411.length co21) : Value).ownBlock ∧ some k_ ≠ (v417 : Value).ownBlock ∧ some k_ ≠ ((.slice Ao25 t424.length co25) : Value).ownBlock ∧ some k_ ≠ ((.slice Ao30 t438.length co30) : Value).ownBlock) (.slice Ao26 t425.length co26) t425) ∧ Aside0 (Kd.R (Kd.int .i64) 2 wc w.heap.size (fun _ => True) v432 t430) ∧ Aside0 (Kd.R k107 107 wc w.heap.size (fun k_ => some k_ ≠ ((.slice Ao21 t411.length co21) : Value).ownBlock ∧ some k_ ≠ (v417 : Value).ownBlock ∧ some k_ ≠ ((.slice Ao25 t424.length co25) : Value).ownBlock ∧ some k_ ≠ ((.slice Ao26 t425.length co26) : Value).ownBlock) (.slice Ao30 t438.length co30) t438) ∧ Aside0 (Below w.heap.size w wc))
    case first => as_aux_lemma =>
      have H := HC18.out
      clear HC18
      by_cases c34 : t419 = t421
      · rw [if_pos c34] at H
        have c34b0 : (t419 == t421) = true := beq_iff_eq.mpr c34
        have c34b1 : (t419 != t421) = false := bne_eq_false_iff_eq.mpr c34
        clear c34
        (first | rw [c34b0] | (simp only [i64_w, i32_w]; rw [c34b0]) | skip)
        replace H := Option.bind_eq_some_iff.mp H
        obtain ⟨t457, A350, H⟩ := H
        replace H : (if t457 = true then (if t431 = t435 then ((laws_likeInts.f k t430 t434).bind fun t458 => (if t458 = true then (if t444 = t446 then (if t443 = t445 then (if t450 = t452 then (if t449 = t451 then (if t454 = t456 then (if t453 = t455 then ((impl_IsBill.f k t410).bind fun t459 => (laws_FnBills.j0 k t411 t416 t419 t424 t425 t430 t431 t438 t443 t444 t447 t448 t449 t450 t453 (t459 != (t456 == 0)))) else (laws_FnBills.j0 k t411 t416 t419 t424 t425 t430 t431 t438 t443 t444 t447 t448 t449 t450 t453 true)) else (laws_FnBills.j0 k t411 t416 t419 t424 t425 t430 t431 t438 t443 t444 t447 t448 t449 t450 t453 true)) else (laws_FnBills.j0 k t411 t416 t419 t424 t425 t430 t431 t438 t443 t444 t447 t448 t449 t450 t453 true)) else (laws_FnBills.j0 k t411 t416 t419 t424 t425 t430 t431 t438 t443 t444 t447 t448 t449 t450 t453 true)) else (laws_FnBills.j0 k t411 t416 t419 t424 t425 t430 t431 t438 t443 t444 t447 t448 t449 t450 t453 true)) else (laws_FnBills.j0 k t411 t416 t419 t424 t425 t430 t431 t438 t443 t444 t447 t448 t449 t450 t453 true)) else (laws_FnBills.j0 k t411 t416 t419 t424 t425 t430 t431 t438 t443 t444 t447 t448 t449 t450 t453 true))) else (laws_FnBills.j0 k t411 t416 t419 t424 t425 t430 t431 t438 t443 t444 t447 t448 t449 t450 t453 true)) else (laws_FnBills.j0 k t411 t416 t419 t424 t425 t430 t431 t438 t443 t444 t447 t448 t449 t450 t453 true)) = some r := H
        have A35 := Aside0.mk A350
        clear A350
        by_cases c36 : t457 = true
        · subst c36
          have H1 : (if t431 = t435 then ((laws_likeInts.f k t430 t434).bind fun t458 => (if t458 = true then (if t444 = t446 then (if t443 = t445 then (if t450 = t452 then (if t449 = t451 then (if t454 = t456 then (if t453 = t455 then ((impl_IsBill.f k t410).bind fun t459 => (laws_FnBills.j0 k t411 t416 t419 t424 t425 t430 t431 t438 t443 t444 t447 t448 t449 t450 t453 (t459 != (t456 == 0)))) else (laws_FnBills.j0 k t411 t416 t419 t424 t425 t430 t431 t438 t443 t444 t447 t448 t449 t450 t453 true)) else (laws_FnBills.j0 k t411 t416 t419 t424 t425 t430 t431 t438 t443 t444 t447 t448 t449 t450 t453 true)) else (laws_FnBills.j0 k t411 t416 t419 t424 t425 t430 t431 t438 t443 t444 t447 t448 t449 t450 t453 true)) else (laws_FnBills.j0 k t411 t416 t419 t424 t425 t430 t431 t438 t443 t444 t447 t448 t449 t450 t453 true)) else (laws_FnBills.j0 k t411 t416 t419 t424 t425 t430 t431 t438 t443 t444 t447 t448 t449 t450 t453 true)) else (laws_FnBills.j0 k t411 t416 t419 t424 t425 t430 t431 t438 t443 t444 t447 t448 t449 t450 t453 true)) else (laws_FnBills.j0 k t411 t416 t419 t424 t425 t430 t431 t438 t443 t444 t447 t448 t449 t450 t453 true))) else (laws_FnBills.j0 k t411 t416 t419 t424 t425 t430 t431 t438 t443 t444 t447 t448 t449 t450 t453 true)) = some r := by rw [if_pos rfl] at H; exact H
          clear H
          have H := H1
          clear H1
          by_cases c37 : t431 = t435
          · rw [if_pos c37] at H
            have c37b0 : (t431 == t435) = true := beq_iff_eq.mpr c37
            have c37b1 : (t431 != t435) = false := bne_eq_false_iff_eq.mpr c37
            clear c37
            replace H := Option.bind_eq_some_iff.mp H
            obtain ⟨t458, A380, H⟩ := H
            replace H : (if t458 = true then (if t444 = t446 then (if t443 = t445 then (if t450 = t452 then (if t449 = t451 then (if t454 = t456 then (if t453 = t455 then ((impl_IsBill.f k t410).bind fun t459 => (laws_FnBills.j0 k t411 t416 t419 t424 t425 t430 t431 t438 t443 t444 t447 t448 t449 t450 t453 (t459 != (t456 == 0)))) else (laws_FnBills.j0 k t411 t416 t419 t424 t425 t430 t431 t438 t443 t444 t447 t448 t449 t450 t453 true)) else (laws_FnBills.j0 k t411 t416 t419 t424 t425 t430 t431 t438 t443 t444 t447 t448 t449 t450 t453 true)) else (laws_FnBills.j0 k t411 t416 t419 t424 t425 t430 t431 t438 t443 t444 t447 t448 t449 t450 t453 true)) else (laws_FnBills.j0 k t411 t416 t419 t424 t425 t430 t431 t438 t443 t444 t447 t448 t449 t450 t453 true)) else (laws_FnBills.j0 k t411 t416 t419 t424 t425 t430 t431 t438 t443 t444 t447 t448 t449 t450 t453 true)) else (laws_FnBills.j0 k t411 t416 t419 t424 t425 t430 t431 t438 t443 t444 t447 t448 t449 t450 t453 true)) else (laws_FnBills.j0 k t411 t416 t419 t424 t425 t430 t431 t438 t443 t444 t447 t448 t449 t450 t453 true)) = some r := H
            have A38 := Aside0.mk A380
            clear A380
            by_cases c39 : t458 = true
            · subst c39
              have H1 : (if t444 = t446 then (if t443 = t445 then (if t450 = t452 then (if t449 = t451 then (if t454 = t456 then (if t453 = t455 then ((impl_IsBill.f k t410).bind fun t459 => (laws_FnBills.j0 k t411 t416 t419 t424 t425 t430 t431 t438 t443 t444 t447 t448 t449 t450 t453 (t459 != (t456 == 0)))) else (laws_FnBills.j0 k t411 t416 t419 t424 t425 t430 t431 t438 t443 t444 t447 t448 t449 t450 t453 true)) else (laws_FnBills.j0 k t411 t416 t419 t424 t425 t430 t431 t438 t443 t444 t447 t448 t449 t450 t453 true)) else (laws_FnBills.j0 k t411 t416 t419 t424 t425 t430 t431 t438 t443 t444 t447 t448 t449 t450 t453 true)) else (laws_FnBills.j0 k t411 t416 t419 t424 t425 t430 t431 t438 t443 t444 t447 t448 t449 t450 t453 true)) else (laws_FnBills.j0 k t411 t416 t419 t424 t425 t430 t431 t438 t443 t444 t447 t448 t449 t450 t453 true)) else (laws_FnBills.j0 k t411 t416 t419 t424 t425 t430 t431 t438 t443 t444 t447 t448 t449 t450 t453 true)) = some r := by rw [if_pos rfl] at H; exact H
              clear H
              have H := H1
              clear H1
              by_cases c40 : t444 = t446
              · rw [if_pos c40] at H
                have c40b0 : (t444 == t446) = true := beq_iff_eq.mpr c40
                have c40b1 : (t444 != t446) = false := bne_eq_false_iff_eq.mpr c40
                clear c40
                by_cases c41 : t443 = t445
                · rw [if_pos c41] at H
                  have c41b0 : (t443 == t445) = true := beq_iff_eq.mpr c41
                  have c41b1 : (t443 != t445) = false := bne_eq_false_iff_eq.mpr c41
                  clear c41
                  by_cases c42 : t450 = t452
                  · rw [if_pos c42] at H
                    have c42b0 : (t450 == t452) = true := beq_iff_eq.mpr c42
                    have c42b1 : (t450 != t452) = false := bne_eq_false_iff_eq.mpr c42
                    clear c42
                    by_cases c43 : t449 = t451
                    · rw [if_pos c43] at H
                      have c43b0 : (t449 == t451) = true := beq_iff_eq.mpr c43
                      have c43b1 : (t449 != t451) = false := bne_eq_false_iff_eq.mpr c43
                      clear c43
                      by_cases c44 : t454 = t456
                      · rw [if_pos c44] at H
                        have c44b0 : (t454 == t456) = true := beq_iff_eq.mpr c44
                        have c44b1 : (t454 != t456) = false := bne_eq_false_iff_eq.mpr c44
                        clear c44
                        by_cases c45 : t453 = t455
                        · rw [if_pos c45] at H
                          have c45b0 : (t453 == t455) = true := beq_iff_eq.mpr c45
                          have c45b1 : (t453 != t455) = false := bne_eq_false_iff_eq.mpr c45
                          clear c45
                          replace H := Option.bind_eq_some_iff.mp H
                          obtain ⟨t459, A460, H⟩ := H
                          replace H : (laws_FnBills.j0 k t411 t416 t419 t424 t425 t430 t431 t438 t443 t444 t447 t448 t449 t450 t453 (t459 != (t456 == 0))) = some r := H
                          have A46 := Aside0.mk A460
                          clear A460
                          have H' := Aside0.mk H
                          clear H
                          obtain ⟨Ao47, co47, eo47⟩ := Kd.R_slice HO418.out
                          subst eo47
                          obtain ⟨Ao48, co48, eo48⟩ := Kd.R_slice HO423.out
                          subst eo48
                          as_aux_lemma =>
                            go_wp2_with (first | (go_at_call 66; (with_reducible refine (laws_likeLines9.calls k _ _ t416 _ _ t420 true _ ?side1 ?side2 ?side3 ?side4 A35.out).mono ?_); (case side1 => repeat (first | exact (Kd.R_reads' HO418.out).2.2 | (with_reducible refine Kd.C_alloc ?_ _) | (with_reducible refine Kd.C_drewN ?_ _) | (with_reducible refine Kd.C_drew ?_))); (case side2 => exact (Kd.R_reads' HO418.out).2.1); (case side3 => repeat (first | exact (Kd.R_reads' HO423.out).2.2 | (with_reducible refine Kd.C_alloc ?_ _) | (with_reducible refine Kd.C_drewN ?_ _) | (with_reducible refine Kd.C_drew ?_))); (case side4 => exact (Kd.R_reads' HO423.out).2.1); rintro e w' ⟨rfl, ⟨nd, rfl⟩⟩; obtain ⟨Ao49, co49, eo49⟩ := Kd.R_slice HO433.out; subst eo49; obtain ⟨Ao50, co50, eo50⟩ := Kd.R_slice HO437.out; subst eo50) | (go_at_call 43; (with_reducible refine (laws_likeInts.calls k _ _ t430 _ _ t434 true _ ?side1 ?side2 ?side3 ?side4 A38.out).mono ?_); (case side1 => repeat (first | exact (Kd.R_reads' HO433.out).2.2 | (with_reducible refine Kd.C_alloc ?_ _) | (with_reducible refine Kd.C_drewN ?_ _) | (with_reducible refine Kd.C_drew ?_))); (case side2 => exact (Kd.R_reads' HO433.out).2.1); (case side3 => repeat (first | exact (Kd.R_reads' HO437.out).2.2 | (with_reducible refine Kd.C_alloc ?_ _) | (with_reducible refine Kd.C_drewN ?_ _) | (with_reducible refine Kd.C_drew ?_))); (case side4 => exact (Kd.R_reads' HO437.out).2.1); rintro e w' ⟨rfl, ⟨nd, rfl⟩⟩) | (go_at_call 67; (with_reducible refine (impl_IsBill.calls k _ _ t410 t459 _ ?side1 ?side2 A46.out).mono ?_); (case side1 => repeat (first | exact (Kd.R_reads' HO413.out).2.2 | (with_reducible refine Kd.C_alloc ?_ _) | (with_reducible refine Kd.C_drewN ?_ _) | (with_reducible refine Kd.C_drew ?_))); (case side2 => exact (Kd.R_reads' HO413.out).2.1); rintro e w51 ⟨rfl, hb⟩; have n0_ := Aside0.mk (Kd.R_below (by (with_reducible repeat (first | apply Kd.R_alloc | apply Kd.R_drewN | apply Kd.R_drew)); exact HO413.out) hb); have n1_ := Aside0.mk (Kd.R_below (by (with_reducible repeat (first | apply Kd.R_alloc | apply Kd.R_drewN | apply Kd.R_drew)); exact HO415.out) hb); have n2_ := Aside0.mk (Kd.R_below (by (with_reducible repeat (first | apply Kd.R_alloc | apply Kd.R_drewN | apply Kd.R_drew)); exact HO418.out) hb); have n3_ := Aside0.mk (Kd.R_below (by (with_reducible repeat (first | apply Kd.R_alloc | apply Kd.R_drewN | apply Kd.R_drew)); exact HO423.out) hb); have n4_ := Aside0.mk (Kd.R_below (by (with_reducible repeat (first | apply Kd.R_alloc | apply Kd.R_drewN | apply Kd.R_drew)); exact HO427.out) hb); have n5_ := Aside0.mk (Kd.R_below (by (with_reducible repeat (first | apply Kd.R_alloc | apply Kd.R_drewN | apply Kd.R_drew)); exact HO429.out) hb); have n6_ := Aside0.mk (Kd.R_below (by (with_reducible repeat (first | apply Kd.R_alloc | apply Kd.R_drewN | apply Kd.R_drew)); exact HO433.out) hb); have n7_ := Aside0.mk (Kd.R_below (by (with_reducible repeat (first | apply Kd.R_alloc | apply Kd.R_drewN | apply Kd.R_drew)); exact HO437.out) hb); have n8_ := Aside0.mk (Kd.R_below (by (with_reducible repeat (first | apply Kd.R_alloc | apply Kd.R_drewN | apply Kd.R_drew)); exact HO442.out) hb); have n9_ := Aside0.mk (below_step (by repeat (first | (with_reducible first | exact HB.out | apply below_alloc | apply pw_below_drewN | apply below_drew1) | exact HB.out)) hb); clear HO413; clear HO415; clear HO418; clear HO423; clear HO427; clear HO429; clear HO433; clear HO437; clear HO442; clear HB; have HO413 := n0_; have HO415 := n1_; have HO418 := n2_; have HO423 := n3_; have HO427 := n4_; have HO429 := n5_; have HO433 := n6_; have HO437 := n7_; have HO442 := n8_; have HB := n9_; clear n0_ n1_ n2_ n3_ n4_ n5_ n6_ n7_ n8_ n9_; (try clear hb); (try clear hb2); (try clear hk); (try clear hi)))
                            go_meet
                            case rel => exact ⟨_, ((t459 != (t456 == 0))), (by first | rfl | (simp; done) | (simp [*]; done)), H', ⟨by first | omega | exact Nat.le_refl _⟩, ⟨by (with_reducible repeat (first | apply Kd.R_alloc | apply Kd.R_drewN | apply Kd.R_drew)); exact Kd.R_mono HO415.out (fun _ hk => ⟨hk.1.1.1.1.2, ⟨hk.1.1.2, ⟨hk.1.2, hk.2⟩⟩⟩)⟩, ⟨by (with_reducible repeat (first | apply Kd.R_alloc | apply Kd.R_drewN | apply Kd.R_drew)); exact Kd.R_mono HO418.out (fun _ hk => ⟨hk.1.1.1.1.2, ⟨hk.1.1.2, ⟨hk.1.2, hk.2⟩⟩⟩)⟩, ⟨by (with_reducible repeat (first | apply Kd.R_alloc | apply Kd.R_drewN | apply Kd.R_drew)); exact Kd.R_mono HO427.out (fun _ hk => ⟨hk.1.1.1.2, ⟨hk.1.1.2, ⟨hk.1.1.1.1.1, hk.2⟩⟩⟩)⟩, ⟨by (with_reducible repeat (first | apply Kd.R_alloc | apply Kd.R_drewN | apply Kd.R_drew)); exact Kd.R_mono HO429.out (fun _ hk => ⟨hk.1.1.1.2, ⟨hk.1.1.2, ⟨hk.1.1.1.1.1, hk.2⟩⟩⟩)⟩, ⟨by (with_reducible repeat (first | apply Kd.R_alloc | apply Kd.R_drewN | apply Kd.R_drew)); exact Kd.R_mono HO433.out (fun _ hk => trivial)⟩, ⟨by (with_reducible repeat (first | apply Kd.R_alloc | apply Kd.R_drewN | apply Kd.R_drew)); exact Kd.R_mono HO442.out (fun _ hk => ⟨hk.1.1.1.1.2, ⟨hk.1.1.1.2, ⟨hk.1.2, hk.2⟩⟩⟩)⟩, ⟨by repeat (first | (with_reducible first | exact HB.out | apply below_alloc | apply pw_below_drewN | apply below_drew1) | exact HB.out)⟩⟩
                        · rw [if_neg c45] at H
                          have c45b0 : (t453 == t455) = false := beq_eq_false_iff_ne.mpr c45
                          have c45b1 : (t453 != t455) = true := bne_iff_ne.mpr c45
                          have H' := Aside0.mk H
                          clear H
                          obtain ⟨Ao52, co52, eo52⟩ := Kd.R_slice HO418.out
                          subst eo52
                          obtain ⟨Ao53, co53, eo53⟩ := Kd.R_slice HO423.out
                          subst eo53
                          as_aux_lemma =>
                            go_wp2_with (first | (go_at_call 66; (with_reducible refine (laws_likeLines9.calls k _ _ t416 _ _ t420 true _ ?side1 ?side2 ?side3 ?side4 A35.out).mono ?_); (case side1 => repeat (first | exact (Kd.R_reads' HO418.out).2.2 | (with_reducible refine Kd.C_alloc ?_ _) | (with_reducible refine Kd.C_drewN ?_ _) | (with_reducible refine Kd.C_drew ?_))); (case side2 => exact (Kd.R_reads' HO418.out).2.1); (case side3 => repeat (first | exact (Kd.R_reads' HO423.out).2.2 | (with_reducible refine Kd.C_alloc ?_ _) | (with_reducible refine Kd.C_drewN ?_ _) | (with_reducible refine Kd.C_drew ?_))); (case side4 => exact (Kd.R_reads' HO423.out).2.1); rintro e w' ⟨rfl, ⟨nd, rfl⟩⟩; obtain ⟨Ao54, co54, eo54⟩ := Kd.R_slice HO433.out; subst eo54; obtain ⟨Ao55, co55, eo55⟩ := Kd.R_slice HO437.out; subst eo55) | (go_at_call 43; (with_reducible refine (laws_likeInts.calls k _ _ t430 _ _ t434 true _ ?side1 ?side2 ?side3 ?side4 A38.out).mono ?_); (case side1 => repeat (first | exact (Kd.R_reads' HO433.out).2.2 | (with_reducible refine Kd.C_alloc ?_ _) | (with_reducible refine Kd.C_drewN ?_ _) | (with_reducible refine Kd.C_drew ?_))); (case side2 => exact (Kd.R_reads' HO433.out).2.1); (case side3 => repeat (first | exact (Kd.R_reads' HO437.out).2.2 | (with_reducible refine Kd.C_alloc ?_ _) | (with_reducible refine Kd.C_drewN ?_ _) | (with_reducible refine Kd.C_drew ?_))); (case side4 => exact (Kd.R_reads' HO437.out).2.1); rintro e w' ⟨rfl, ⟨nd, rfl⟩⟩))
                            go_meet
                            case rel => exact ⟨_, (true), (by first | rfl | (simp; done) | (simp [*]; done)), H', ⟨by first | omega | exact Nat.le_refl _⟩, ⟨by (with_reducible repeat (first | apply Kd.R_alloc | apply Kd.R_drewN | apply Kd.R_drew)); exact Kd.R_mono HO415.out (fun _ hk => ⟨hk.1.1.1.1.2, ⟨hk.1.1.2, ⟨hk.1.2, hk.2⟩⟩⟩)⟩, ⟨by (with_reducible repeat (first | apply Kd.R_alloc | apply Kd.R_drewN | apply Kd.R_drew)); exact Kd.R_mono HO418.out (fun _ hk => ⟨hk.1.1.1.1.2, ⟨hk.1.1.2, ⟨hk.1.2, hk.2⟩⟩⟩)⟩, ⟨by (with_reducible repeat (first | apply Kd.R_alloc | apply Kd.R_drewN | apply Kd.R_drew)); exact Kd.R_mono HO427.out (fun _ hk => ⟨hk.1.1.1.2, ⟨hk.1.1.2, ⟨hk.1.1.1.1.1, hk.2⟩⟩⟩)⟩, ⟨by (with_reducible repeat (first | apply Kd.R_alloc | apply Kd.R_drewN | apply Kd.R_drew)); exact Kd.R_mono HO429.out (fun _ hk => ⟨hk.1.1.1.2, ⟨hk.1.1.2, ⟨hk.1.1.1.1.1, hk.2⟩⟩⟩)⟩, ⟨by (with_reducible repeat (first | apply Kd.R_alloc | apply Kd.R_drewN | apply Kd.R_drew)); exact Kd.R_mono HO433.out (fun _ hk => trivial)⟩, ⟨by (with_reducible repeat (first | apply Kd.R_alloc | apply Kd.R_drewN | apply Kd.R_drew)); exact Kd.R_mono HO442.out (fun _ hk => ⟨hk.1.1.1.1.2, ⟨hk.1.1.1.2, ⟨hk.1.2, hk.2⟩⟩⟩)⟩, ⟨by repeat (first | (with_reducible first | exact HB.out | apply below_alloc | apply pw_below_drewN | apply below_drew1) | exact HB.out)⟩⟩
                      · rw [if_neg c44] at H
                        have c44b0 : (t454 == t456) = false := beq_eq_false_iff_ne.mpr c44
                        have c44b1 : (t454 != t456) = true := bne_iff_ne.mpr c44
                        have H' := Aside0.mk H
                        clear H
                        obtain ⟨Ao56, co56, eo56⟩ := Kd.R_slice HO418.out
                        subst eo56
                        obtain ⟨Ao57, co57, eo57⟩ := Kd.R_slice HO423.out
                        subst eo57
                        as_aux_lemma =>
                          go_wp2_with (first | (go_at_call 66; (with_reducible refine (laws_likeLines9.calls k _ _ t416 _ _ t420 true _ ?side1 ?side2 ?side3 ?side4 A35.out).mono ?_); (case side1 => repeat (first | exact (Kd.R_reads' HO418.out).2.2 | (with_reducible refine Kd.C_alloc ?_ _) | (with_reducible refine Kd.C_drewN ?_ _) | (with_reducible refine Kd.C_drew ?_))); (case side2 => exact (Kd.R_reads' HO418.out).2.1); (case side3 => repeat (first | exact (Kd.R_reads' HO423.out).2.2 | (with_reducible refine Kd.C_alloc ?_ _) | (with_reducible refine Kd.C_drewN ?_ _) | (with_reducible refine Kd.C_drew ?_))); (case side4 => exact (Kd.R_reads' HO423.out).2.1); rintro e w' ⟨rfl, ⟨nd, rfl⟩⟩; obtain ⟨Ao58, co58, eo58⟩ := Kd.R_slice HO433.out; subst eo58; obtain ⟨Ao59, co59, eo59⟩ := Kd.R_slice HO437.out; subst eo59) | (go_at_call 43; (with_reducible refine (laws_likeInts.calls k _ _ t430 _ _ t434 true _ ?side1 ?side2 ?side3 ?side4 A38.out).mono ?_); (case side1 => repeat (first | exact (Kd.R_reads' HO433.out).2.2 | (with_reducible refine Kd.C_alloc ?_ _) | (with_reducible refine Kd.C_drewN ?_ _) | (with_reducible refine Kd.C_drew ?_))); (case side2 => exact (Kd.R_reads' HO433.out).2.1); (case side3 => repeat (first | exact (Kd.R_reads' HO437.out).2.2 | (with_reducible refine Kd.C_alloc ?_ _) | (with_reducible refine Kd.C_drewN ?_ _) | (with_reducible refine Kd.C_drew ?_))); (case side4 => exact (Kd.R_reads' HO437.out).2.1); rintro e w' ⟨rfl, ⟨nd, rfl⟩⟩))
                          go_meet
                          case rel => exact ⟨_, (true), (by first | rfl | (simp; done) | (simp [*]; done)), H', ⟨by first | omega | exact Nat.le_refl _⟩, ⟨by (with_reducible repeat (first | apply Kd.R_alloc | apply Kd.R_drewN | apply Kd.R_drew)); exact Kd.R_mono HO415.out (fun _ hk => ⟨hk.1.1.1.1.2, ⟨hk.1.1.2, ⟨hk.1.2, hk.2⟩⟩⟩)⟩, ⟨by (with_reducible repeat (first | apply Kd.R_alloc | apply Kd.R_drewN | apply Kd.R_drew)); exact Kd.R_mono HO418.out (fun _ hk => ⟨hk.1.1.1.1.2, ⟨hk.1.1.2, ⟨hk.1.2, hk.2⟩⟩⟩)⟩, ⟨by (with_reducible repeat (first | apply Kd.R_alloc | apply Kd.R_drewN | apply Kd.R_drew)); exact Kd.R_mono HO427.out (fun _ hk => ⟨hk.1.1.1.2, ⟨hk.1.1.2, ⟨hk.1.1.1.1.1, hk.2⟩⟩⟩)⟩, ⟨by (with_reducible repeat (first | apply Kd.R_alloc | apply Kd.R_drewN | apply Kd.R_drew)); exact Kd.R_mono HO429.out (fun _ hk => ⟨hk.1.1.1.2, ⟨hk.1.1.2, ⟨hk.1.1.1.1.1, hk.2⟩⟩⟩)⟩, ⟨by (with_reducible repeat (first | apply Kd.R_alloc | apply Kd.R_drewN | apply Kd.R_drew)); exact Kd.R_mono HO433.out (fun _ hk => trivial)⟩, ⟨by (with_reducible repeat (first | apply Kd.R_alloc | apply Kd.R_drewN | apply Kd.R_drew)); exact Kd.R_mono HO442.out (fun _ hk => ⟨hk.1.1.1.1.2, ⟨hk.1.1.1.2, ⟨hk.1.2, hk.2⟩⟩⟩)⟩, ⟨by repeat (first | (with_reducible first | exact HB.out | apply below_alloc | apply pw_below_drewN | apply below_drew1) | exact HB.out)⟩⟩
                    · rw [if_neg c43] at H
                      have c43b0 : (t449 == t451) = false := beq_eq_false_iff_ne.mpr c43
                      have c43b1 : (t449 != t451) = true := bne_iff_ne.mpr c43
                      have H' := Aside0.mk H
                      clear H
                      obtain ⟨Ao60, co60, eo60⟩ := Kd.R_slice HO418.out
                      subst eo60
                      obtain ⟨Ao61, co61, eo61⟩ := Kd.R_slice HO423.out
                      subst eo61
                      as_aux_lemma =>
                        go_wp2_with (first | (go_at_call 66; (with_reducible refine (laws_likeLines9.calls k _ _ t416 _ _ t420 true _ ?side1 ?side2 ?side3 ?side4 A35.out).mono ?_); (case side1 => repeat (first | exact (Kd.R_reads' HO418.out).2.2 | (with_reducible refine Kd.C_alloc ?_ _) | (with_reducible refine Kd.C_drewN ?_ _) | (with_reducible refine Kd.C_drew ?_))); (case side2 => exact (Kd.R_reads' HO418.out).2.1); (case side3 => repeat (first | exact (Kd.R_reads' HO423.out).2.2 | (with_reducible refine Kd.C_alloc ?_ _) | (with_reducible refine Kd.C_drewN ?_ _) | (with_reducible refine Kd.C_drew ?_))); (case side4 => exact (Kd.R_reads' HO423.out).2.1); rintro e w' ⟨rfl, ⟨nd, rfl⟩⟩; obtain ⟨Ao62, co62, eo62⟩ := Kd.R_slice HO433.out; subst eo62; obtain ⟨Ao63, co63, eo63⟩ := Kd.R_slice HO437.out; subst eo63) | (go_at_call 43; (with_reducible refine (laws_likeInts.calls k _ _ t430 _ _ t434 true _ ?side1 ?side2 ?side3 ?side4 A38.out).mono ?_); (case side1 => repeat (first | exact (Kd.R_reads' HO433.out).2.2 | (with_reducible refine Kd.C_alloc ?_ _) | (with_reducible refine Kd.C_drewN ?_ _) | (with_reducible refine Kd.C_drew ?_))); (case side2 => exact (Kd.R_reads' HO433.out).2.1); (case side3 => repeat (first | exact (Kd.R_reads' HO437.out).2.2 | (with_reducible refine Kd.C_alloc ?_ _) | (with_reducible refine Kd.C_drewN ?_ _) | (with_reducible refine Kd.C_drew ?_))); (case side4 => exact (Kd.R_reads' HO437.out).2.1); rintro e w' ⟨rfl, ⟨nd, rfl⟩⟩))
                        go_meet
                        case rel => exact ⟨_, (true), (by first | rfl | (simp; done) | (simp [*]; done)), H', ⟨by first | omega | exact Nat.le_refl _⟩, ⟨by (with_reducible repeat (first | apply Kd.R_alloc | apply Kd.R_drewN | apply Kd.R_drew)); exact Kd.R_mono HO415.out (fun _ hk => ⟨hk.1.1.1.1.2, ⟨hk.1.1.2, ⟨hk.1.2, hk.2⟩⟩⟩)⟩, ⟨by (with_reducible repeat (first | apply Kd.R_alloc | apply Kd.R_drewN | apply Kd.R_drew)); exact Kd.R_mono HO418.out (fun _ hk => ⟨hk.1.1.1.1.2, ⟨hk.1.1.2, ⟨hk.1.2, hk.2⟩⟩⟩)⟩, ⟨by (with_reducible repeat (first | apply Kd.R_alloc | apply Kd.R_drewN | apply Kd.R_drew)); exact Kd.R_mono HO427.out (fun _ hk => ⟨hk.1.1.1.2, ⟨hk.1.1.2, ⟨hk.1.1.1.1.1, hk.2⟩⟩⟩)⟩, ⟨by (with_reducible repeat (first | apply Kd.R_alloc | apply Kd.R_drewN | apply Kd.R_drew)); exact Kd.R_mono HO429.out (fun _ hk => ⟨hk.1.1.1.2, ⟨hk.1.1.2, ⟨hk.1.1.1.1.1, hk.2⟩⟩⟩)⟩, ⟨by (with_reducible repeat (first | apply Kd.R_alloc | apply Kd.R_drewN | apply Kd.R_drew)); exact Kd.R_mono HO433.out (fun _ hk => trivial)⟩, ⟨by (with_reducible repeat (first | apply Kd.R_alloc | apply Kd.R_drewN | apply Kd.R_drew)); exact Kd.R_mono HO442.out (fun _ hk => ⟨hk.1.1.1.1.2, ⟨hk.1.1.1.2, ⟨hk.1.2, hk.2⟩⟩⟩)⟩, ⟨by repeat (first | (with_reducible first | exact HB.out | apply below_alloc | apply pw_below_drewN | apply below_drew1) | exact HB.out)⟩⟩
                  · rw [if_neg c42] at H
                    have c42b0 : (t450 == t452) = false := beq_eq_false_iff_ne.mpr c42
                    have c42b1 : (t450 != t452) = true := bne_iff_ne.mpr c42
                    have H' := Aside0.mk H
                    clear H
                    obtain ⟨Ao64, co64, eo64⟩ := Kd.R_slice HO418.out
                    subst eo64
                    obtain ⟨Ao65, co65, eo65⟩ := Kd.R_slice HO423.out
                    subst eo65
                    as_aux_lemma =>
                      go_wp2_with (first | (go_at_call 66; (with_reducible refine (laws_likeLines9.calls k _ _ t416 _ _ t420 true _ ?side1 ?side2 ?side3 ?side4 A35.out).mono ?_); (case side1 => repeat (first | exact (Kd.R_reads' HO418.out).2.2 | (with_reducible refine Kd.C_alloc ?_ _) | (with_reducible refine Kd.C_drewN ?_ _) | (with_reducible refine Kd.C_drew ?_))); (case side2 => exact (Kd.R_reads' HO418.out).2.1); (case side3 => repeat (first | exact (Kd.R_reads' HO423.out).2.2 | (with_reducible refine Kd.C_alloc ?_ _) | (with_reducible refine Kd.C_drewN ?_ _) | (with_reducible refine Kd.C_drew ?_))); (case side4 => exact (Kd.R_reads' HO423.out).2.1); rintro e w' ⟨rfl, ⟨nd, rfl⟩⟩; obtain ⟨Ao66, co66, eo66⟩ := Kd.R_slice HO433.out; subst eo66; obtain ⟨Ao67, co67, eo67⟩ := Kd.R_slice HO437.out; subst eo67) | (go_at_call 43; (with_reducible refine (laws_likeInts.calls k _ _ t430 _ _ t434 true _ ?side1 ?side2 ?side3 ?side4 A38.out).mono ?_); (case side1 => repeat (first | exact (Kd.R_reads' HO433.out).2.2 | (with_reducible refine Kd.C_alloc ?_ _) | (with_reducible refine Kd.C_drewN ?_ _) | (with_reducible refine Kd.C_drew ?_))); (case side2 => exact (Kd.R_reads' HO433.out).2.1); (case side3 => repeat (first | exact (Kd.R_reads' HO437.out).2.2 | (with_reducible refine Kd.C_alloc ?_ _) | (with_reducible refine Kd.C_drewN ?_ _) | (with_reducible refine Kd.C_drew ?_))); (case side4 => exact (Kd.R_reads' HO437.out).2.1); rintro e w' ⟨rfl, ⟨nd, rfl⟩⟩))
                      go_meet
                      case rel => exact ⟨_, (true), (by first | rfl | (simp; done) | (simp [*]; done)), H', ⟨by first | omega | exact Nat.le_refl _⟩, ⟨by (with_reducible repeat (first | apply Kd.R_alloc | apply Kd.R_drewN | apply Kd.R_drew)); exact Kd.R_mono HO415.out (fun _ hk => ⟨hk.1.1.1.1.2, ⟨hk.1.1.2, ⟨hk.1.2, hk.2⟩⟩⟩)⟩, ⟨by (with_reducible repeat (first | apply Kd.R_alloc | apply Kd.R_drewN | apply Kd.R_drew)); exact Kd.R_mono HO418.out (fun _ hk => ⟨hk.1.1.1.1.2, ⟨hk.1.1.2, ⟨hk.1.2, hk.2⟩⟩⟩)⟩, ⟨by (with_reducible repeat (first | apply Kd.R_alloc | apply Kd.R_drewN | apply Kd.R_drew)); exact Kd.R_mono HO427.out (fun _ hk => ⟨hk.1.1.1.2, ⟨hk.1.1.2, ⟨hk.1.1.1.1.1, hk.2⟩⟩⟩)⟩, ⟨by (with_reducible repeat (first | apply Kd.R_alloc | apply Kd.R_drewN | apply Kd.R_drew)); exact Kd.R_mono HO429.out (fun _ hk => ⟨hk.1.1.1.2, ⟨hk.1.1.2, ⟨hk.1.1.1.1.1, hk.2⟩⟩⟩)⟩, ⟨by (with_reducible repeat (first | apply Kd.R_alloc | apply Kd.R_drewN | apply Kd.R_drew)); exact Kd.R_mono HO433.out (fun _ hk => trivial)⟩, ⟨by (with_reducible repeat (first | apply Kd.R_alloc | apply Kd.R_drewN | apply Kd.R_drew)); exact Kd.R_mono HO442.out (fun _ hk => ⟨hk.1.1.1.1.2, ⟨hk.1.1.1.2, ⟨hk.1.2, hk.2⟩⟩⟩)⟩, ⟨by repeat (first | (with_reducible first | exact HB.out | apply below_alloc | apply pw_below_drewN | apply below_drew1) | exact HB.out)⟩⟩
                · rw [if_neg c41] at H
                  have c41b0 : (t443 == t445) = false := beq_eq_false_iff_ne.mpr c41
                  have c41b1 : (t443 != t445) = true := bne_iff_ne.mpr c41
                  have H' := Aside0.mk H
                  clear H
                  obtain ⟨Ao68, co68, eo68⟩ := Kd.R_slice HO418.out
                  subst eo68
                  obtain ⟨Ao69, co69, eo69⟩ := Kd.R_slice HO423.out
                  subst eo69
                  as_aux_lemma =>
                    go_wp2_with (first | (go_at_call 66; (with_reducible refine (laws_likeLines9.calls k _ _ t416 _ _ t420 true _ ?side1 ?side2 ?side3 ?side4 A35.out).mono ?_); (case side1 => repeat (first | exact (Kd.R_reads' HO418.out).2.2 | (with_reducible refine Kd.C_alloc ?_ _) | (with_reducible refine Kd.C_drewN ?_ _) | (with_reducible refine Kd.C_drew ?_))); (case side2 => exact (Kd.R_reads' HO418.out).2.1); (case side3 => repeat (first | exact (Kd.R_reads' HO423.out).2.2 | (with_reducible refine Kd.C_alloc ?_ _) | (with_reducible refine Kd.C_drewN ?_ _) | (with_reducible refine Kd.C_drew ?_))); (case side4 => exact (Kd.R_reads' HO423.out).2.1); rintro e w' ⟨rfl, ⟨nd, rfl⟩⟩; obtain ⟨Ao70, co70, eo70⟩ := Kd.R_slice HO433.out; subst eo70; obtain ⟨Ao71, co71, eo71⟩ := Kd.R_slice HO437.out; subst eo71) | (go_at_call 43; (with_reducible refine (laws_likeInts.calls k _ _ t430 _ _ t434 true _ ?side1 ?side2 ?side3 ?side4 A38.out).mono ?_); (case side1 => repeat (first | exact (Kd.R_reads' HO433.out).2.2 | (with_reducible refine Kd.C_alloc ?_ _) | (with_reducible refine Kd.C_drewN ?_ _) | (with_reducible refine Kd.C_drew ?_))); (case side2 => exact (Kd.R_reads' HO433.out).2.1); (case side3 => repeat (first | exact (Kd.R_reads' HO437.out).2.2 | (with_reducible refine Kd.C_alloc ?_ _) | (with_reducible refine Kd.C_drewN ?_ _) | (with_reducible refine Kd.C_drew ?_))); (case side4 => exact (Kd.R_reads' HO437.out).2.1); rintro e w' ⟨rfl, ⟨nd, rfl⟩⟩))
                    go_meet
                    case rel => exact ⟨_, (true), (by first | rfl | (simp; done) | (simp [*]; done)), H', ⟨by first | omega | exact Nat.le_refl _⟩, ⟨by (with_reducible repeat (first | apply Kd.R_alloc | apply Kd.R_drewN | apply Kd.R_drew)); exact Kd.R_mono HO415.out (fun _ hk => ⟨hk.1.1.1.1.2, ⟨hk.1.1.2, ⟨hk.1.2, hk.2⟩⟩⟩)⟩, ⟨by (with_reducible repeat (first | apply Kd.R_alloc | apply Kd.R_drewN | apply Kd.R_drew)); exact Kd.R_mono HO418.out (fun _ hk => ⟨hk.1.1.1.1.2, ⟨hk.1.1.2, ⟨hk.1.2, hk.2⟩⟩⟩)⟩, ⟨by (with_reducible repeat (first | apply Kd.R_alloc | apply Kd.R_drewN | apply Kd.R_drew)); exact Kd.R_mono HO427.out (fun _ hk => ⟨hk.1.1.1.2, ⟨hk.1.1.2, ⟨hk.1.1.1.1.1, hk.2⟩⟩⟩)⟩, ⟨by (with_reducible repeat (first | apply Kd.R_alloc | apply Kd.R_drewN | apply Kd.R_drew)); exact Kd.R_mono HO429.out (fun _ hk => ⟨hk.1.1.1.2, ⟨hk.1.1.2, ⟨hk.1.1.1.1.1, hk.2⟩⟩⟩)⟩, ⟨by (with_reducible repeat (first | apply Kd.R_alloc | apply Kd.R_drewN | apply Kd.R_drew)); exact Kd.R_mono HO433.out (fun _ hk => trivial)⟩, ⟨by (with_reducible repeat (first | apply Kd.R_alloc | apply Kd.R_drewN | apply Kd.R_drew)); exact Kd.R_mono HO442.out (fun _ hk => ⟨hk.1.1.1.1.2, ⟨hk.1.1.1.2, ⟨hk.1.2, hk.2⟩⟩⟩)⟩, ⟨by repeat (first | (with_reducible first | exact HB.out | apply below_alloc | apply pw_below_drewN | apply below_drew1) | exact HB.out)⟩⟩
              · rw [if_neg c40] at H
                have c40b0 : (t444 == t446) = false := beq_eq_false_iff_ne.mpr c40
                have c40b1 : (t444 != t446) = true := bne_iff_ne.mpr c40
                have H' := Aside0.mk H
                clear H
                obtain ⟨Ao72, co72, eo72⟩ := Kd.R_slice HO418.out
                subst eo72
                obtain ⟨Ao73, co73, eo73⟩ := Kd.R_slice HO423.out
                subst eo73
                as_aux_lemma =>
                  go_wp2_with (first | (go_at_call 66; (with_reducible refine (laws_likeLines9.calls k _ _ t416 _ _ t420 true _ ?side1 ?side2 ?side3 ?side4 A35.out).mono ?_); (case side1 => repeat (first | exact (Kd.R_reads' HO418.out).2.2 | (with_reducible refine Kd.C_alloc ?_ _) | (with_reducible refine Kd.C_drewN ?_ _) | (with_reducible refine Kd.C_drew ?_))); (case side2 => exact (Kd.R_reads' HO418.out).2.1); (case side3 => repeat (first | exact (Kd.R_reads' HO423.out).2.2 | (with_reducible refine Kd.C_alloc ?_ _) | (with_reducible refine Kd.C_drewN ?_ _) | (with_reducible refine Kd.C_drew ?_))); (case side4 => exact (Kd.R_reads' HO423.out).2.1); rintro e w' ⟨rfl, ⟨nd, rfl⟩⟩; obtain ⟨Ao74, co74, eo74⟩ := Kd.R_slice HO433.out; subst eo74; obtain ⟨Ao75, co75, eo75⟩ := Kd.R_slice HO437.out; subst eo75) | (go_at_call 43; (with_reducible refine (laws_likeInts.calls k _ _ t430 _ _ t434 true _ ?side1 ?side2 ?side3 ?side4 A38.out).mono ?_); (case side1 => repeat (first | exact (Kd.R_reads' HO433.out).2.2 | (with_reducible refine Kd.C_alloc ?_ _) | (with_reducible refine Kd.C_drewN ?_ _) | (with_reducible refine Kd.C_drew ?_))); (case side2 => exact (Kd.R_reads' HO433.out).2.1); (case side3 => repeat (first | exact (Kd.R_reads' HO437.out).2.2 | (with_reducible refine Kd.C_alloc ?_ _) | (with_reducible refine Kd.C_drewN ?_ _) | (with_reducible refine Kd.C_drew ?_))); (case side4 => exact (Kd.R_reads' HO437.out).2.1); rintro e w' ⟨rfl, ⟨nd, rfl⟩⟩))
                  go_meet
                  case rel => exact ⟨_, (true), (by first | rfl | (simp; done) | (simp [*]; done)), H', ⟨by first | omega | exact Nat.le_refl _⟩, ⟨by (with_reducible repeat (first | apply Kd.R_alloc | apply Kd.R_drewN | apply Kd.R_drew)); exact Kd.R_mono HO415.out (fun _ hk => ⟨hk.1.1.1.1.2, ⟨hk.1.1.2, ⟨hk.1.2, hk.2⟩⟩⟩)⟩, ⟨by (with_reducible repeat (first | apply Kd.R_alloc | apply Kd.R_drewN | apply Kd.R_drew)); exact Kd.R_mono HO418.out (fun _ hk => ⟨hk.1.1.1.1.2, ⟨hk.1.1.2, ⟨hk.1.2, hk.2⟩⟩⟩)⟩, ⟨by (with_reducible repeat (first | apply Kd.R_alloc | apply Kd.R_drewN | apply Kd.R_drew)); exact Kd.R_mono HO427.out (fun _ hk => ⟨hk.1.1.1.2, ⟨hk.1.1.2, ⟨hk.1.1.1.1.1, hk.2⟩⟩⟩)⟩, ⟨by (with_reducible repeat (first | apply Kd.R_alloc | apply Kd.R_drewN | apply Kd.R_drew)); exact Kd.R_mono HO429.out (fun _ hk => ⟨hk.1.1.1.2, ⟨hk.1.1.2, ⟨hk.1.1.1.1.1, hk.2⟩⟩⟩)⟩, ⟨by (with_reducible repeat (first | apply Kd.R_alloc | apply Kd.R_drewN | apply Kd.R_drew)); exact Kd.R_mono HO433.out (fun _ hk => trivial)⟩, ⟨by (with_reducible repeat (first | apply Kd.R_alloc | apply Kd.R_drewN | apply Kd.R_drew)); exact Kd.R_mono HO442.out (fun _ hk => ⟨hk.1.1.1.1.2, ⟨hk.1.1.1.2, ⟨hk.1.2, hk.2⟩⟩⟩)⟩, ⟨by repeat (first | (with_reducible first | exact HB.out | apply below_alloc | apply pw_below_drewN | apply below_drew1) | exact HB.out)⟩⟩
            · replace c39 := Bool.eq_false_iff.mpr c39
              subst c39
              have H1 : (laws_FnBills.j0 k t411 t416 t419 t424 t425 t430 t431 t438 t443 t444 t447 t448 t449 t450 t453 true) = some r := by rw [if_neg (show ¬ (false = true) by decide)] at H; exact H
              clear H
              have H := H1
              clear H1
              have H' := Aside0.mk H
              clear H
              obtain ⟨Ao76, co76, eo76⟩ := Kd.R_slice HO418.out
              subst eo76
              obtain ⟨Ao77, co77, eo77⟩ := Kd.R_slice HO423.out
              subst eo77
              as_aux_lemma =>
                go_wp2_with (first | (go_at_call 66; (with_reducible refine (laws_likeLines9.calls k _ _ t416 _ _ t420 true _ ?side1 ?side2 ?side3 ?side4 A35.out).mono ?_); (case side1 => repeat (first | exact (Kd.R_reads' HO418.out).2.2 | (with_reducible refine Kd.C_alloc ?_ _) | (with_reducible refine Kd.C_drewN ?_ _) | (with_reducible refine Kd.C_drew ?_))); (case side2 => exact (Kd.R_reads' HO418.out).2.1); (case side3 => repeat (first | exact (Kd.R_reads' HO423.out).2.2 | (with_reducible refine Kd.C_alloc ?_ _) | (with_reducible refine Kd.C_drewN ?_ _) | (with_reducible refine Kd.C_drew ?_))); (case side4 => exact (Kd.R_reads' HO423.out).2.1); rintro e w' ⟨rfl, ⟨nd, rfl⟩⟩; obtain ⟨Ao78, co78, eo78⟩ := Kd.R_slice HO433.out; subst eo78; obtain ⟨Ao79, co79, eo79⟩ := Kd.R_slice HO437.out; subst eo79) | (go_at_call 43; (with_reducible refine (laws_likeInts.calls k _ _ t430 _ _ t434 false _ ?side1 ?side2 ?side3 ?side4 A38.out).mono ?_); (case side1 => repeat (first | exact (Kd.R_reads' HO433.out).2.2 | (with_reducible refine Kd.C_alloc ?_ _) | (with_reducible refine Kd.C_drewN ?_ _) | (with_reducible refine Kd.C_drew ?_))); (case side2 => exact (Kd.R_reads' HO433.out).2.1); (case side3 => repeat (first | exact (Kd.R_reads' HO437.out).2.2 | (with_reducible refine Kd.C_alloc ?_ _) | (with_reducible refine Kd.C_drewN ?_ _) | (with_reducible refine Kd.C_drew ?_))); (case side4 => exact (Kd.R_reads' HO437.out).2.1); rintro e w' ⟨rfl, ⟨nd, rfl⟩⟩))
                go_meet
                case rel => exact ⟨_, (true), (by first | rfl | (simp; done) | (simp [*]; done)), H', ⟨by first | omega | exact Nat.le_refl _⟩, ⟨by (with_reducible repeat (first | apply Kd.R_alloc | apply Kd.R_drewN | apply Kd.R_drew)); exact Kd.R_mono HO415.out (fun _ hk => ⟨hk.1.1.1.1.2, ⟨hk.1.1.2, ⟨hk.1.2, hk.2⟩⟩⟩)⟩, ⟨by (with_reducible repeat (first | apply Kd.R_alloc | apply Kd.R_drewN | apply Kd.R_drew)); exact Kd.R_mono HO418.out (fun _ hk => ⟨hk.1.1.1.1.2, ⟨hk.1.1.2, ⟨hk.1.2, hk.2⟩⟩⟩)⟩, ⟨by (with_reducible repeat (first | apply Kd.R_alloc | apply Kd.R_drewN | apply Kd.R_drew)); exact Kd.R_mono HO427.out (fun _ hk => ⟨hk.1.1.1.2, ⟨hk.1.1.2, ⟨hk.1.1.1.1.1, hk.2⟩⟩⟩)⟩, ⟨by (with_reducible repeat (first | apply Kd.R_alloc | apply Kd.R_drewN | apply Kd.R_drew)); exact Kd.R_mono HO429.out (fun _ hk => ⟨hk.1.1.1.2, ⟨hk.1.1.2, ⟨hk.1.1.1.1.1, hk.2⟩⟩⟩)⟩, ⟨by (with_reducible repeat (first | apply Kd.R_alloc | apply Kd.R_drewN | apply Kd.R_drew)); exact Kd.R_mono HO433.out (fun _ hk => trivial)⟩, ⟨by (with_reducible repeat (first | apply Kd.R_alloc | apply Kd.R_drewN | apply Kd.R_drew)); exact Kd.R_mono HO442.out (fun _ hk => ⟨hk.1.1.1.1.2, ⟨hk.1.1.1.2, ⟨hk.1.2, hk.2⟩⟩⟩)⟩, ⟨by repeat (first | (with_reducible first | exact HB.out | apply below_alloc | apply pw_below_drewN | apply below_drew1) | exact HB.out)⟩⟩
          · rw [if_neg c37] at H
            have c37b0 : (t431 == t435) = false := beq_eq_false_iff_ne.mpr c37
            have c37b1 : (t431 != t435) = true := bne_iff_ne.mpr c37
            have H' := Aside0.mk H
            clear H
            obtain ⟨Ao80, co80, eo80⟩ := Kd.R_slice HO418.out
            subst eo80
            obtain ⟨Ao81, co81, eo81⟩ := Kd.R_slice HO423.out
            subst eo81
            as_aux_lemma =>
              go_wp2_with (first | (go_at_call 66; (with_reducible refine (laws_likeLines9.calls k _ _ t416 _ _ t420 true _ ?side1 ?side2 ?side3 ?side4 A35.out).mono ?_); (case side1 => repeat (first | exact (Kd.R_reads' HO418.out).2.2 | (with_reducible refine Kd.C_alloc ?_ _) | (with_reducible refine Kd.C_drewN ?_ _) | (with_reducible refine Kd.C_drew ?_))); (case side2 => exact (Kd.R_reads' HO418.out).2.1); (case side3 => repeat (first | exact (Kd.R_reads' HO423.out).2.2 | (with_reducible refine Kd.C_alloc ?_ _) | (with_reducible refine Kd.C_drewN ?_ _) | (with_reducible refine Kd.C_drew ?_))); (case side4 => exact (Kd.R_reads' HO423.out).2.1); rintro e w' ⟨rfl, ⟨nd, rfl⟩⟩))
              go_meet
              case rel => exact ⟨_, (true), (by first | rfl | (simp; done) | (simp [*]; done)), H', ⟨by first | omega | exact Nat.le_refl _⟩, ⟨by (with_reducible repeat (first | apply Kd.R_alloc | apply Kd.R_drewN | apply Kd.R_drew)); exact Kd.R_mono HO415.out (fun _ hk => ⟨hk.1.1.1.1.2, ⟨hk.1.1.2, ⟨hk.1.2, hk.2⟩⟩⟩)⟩, ⟨by (with_reducible repeat (first | apply Kd.R_alloc | apply Kd.R_drewN | apply Kd.R_drew)); exact Kd.R_mono HO418.out (fun _ hk => ⟨hk.1.1.1.1.2, ⟨hk.1.1.2, ⟨hk.1.2, hk.2⟩⟩⟩)⟩, ⟨by (with_reducible repeat (first | apply Kd.R_alloc | apply Kd.R_drewN | apply Kd.R_drew)); exact Kd.R_mono HO427.out (fun _ hk => ⟨hk.1.1.1.2, ⟨hk.1.1.2, ⟨hk.1.1.1.1.1, hk.2⟩⟩⟩)⟩, ⟨by (with_reducible repeat (first | apply Kd.R_alloc | apply Kd.R_drewN | apply Kd.R_drew)); exact Kd.R_mono HO429.out (fun _ hk => ⟨hk.1.1.1.2, ⟨hk.1.1.2, ⟨hk.1.1.1.1.1, hk.2⟩⟩⟩)⟩, ⟨by (with_reducible repeat (first | apply Kd.R_alloc | apply Kd.R_drewN | apply Kd.R_drew)); exact Kd.R_mono HO433.out (fun _ hk => trivial)⟩, ⟨by (with_reducible repeat (first | apply Kd.R_alloc | apply Kd.R_drewN | apply Kd.R_drew)); exact Kd.R_mono HO442.out (fun _ hk => ⟨hk.1.1.1.1.2, ⟨hk.1.1.1.2, ⟨hk.1.2, hk.2⟩⟩⟩)⟩, ⟨by repeat (first | (with_reducible first | exact HB.out | apply below_alloc | apply pw_below_drewN | apply below_drew1) | exact HB.out)⟩⟩
        · replace c36 := Bool.eq_false_iff.mpr c36
          subst c36
          have H1 : (laws_FnBills.j0 k t411 t416 t419 t424 t425 t430 t431 t438 t443 t444 t447 t448 t449 t450 t453 true) = some r := by rw [if_neg (show ¬ (false = true) by decide)] at H; exact H
          clear H
          have H := H1
          clear H1
          have H' := Aside0.mk H
          clear H
          obtain ⟨Ao82, co82, eo82⟩ := Kd.R_slice HO418.out
          subst eo82
          obtain ⟨Ao83, co83, eo83⟩ := Kd.R_slice HO423.out
          subst eo83
          as_aux_lemma =>
            go_wp2_with (first | (go_at_call 66; (with_reducible refine (laws_likeLines9.calls k _ _ t416 _ _ t420 false _ ?side1 ?side2 ?side3 ?side4 A35.out).mono ?_); (case side1 => repeat (first | exact (Kd.R_reads' HO418.out).2.2 | (with_reducible refine Kd.C_alloc ?_ _) | (with_reducible refine Kd.C_drewN ?_ _) | (with_reducible refine Kd.C_drew ?_))); (case side2 => exact (Kd.R_reads' HO418.out).2.1); (case side3 => repeat (first | exact (Kd.R_reads' HO423.out).2.2 | (with_reducible refine Kd.C_alloc ?_ _) | (with_reducible refine Kd.C_drewN ?_ _) | (with_reducible refine Kd.C_drew ?_))); (case side4 => exact (Kd.R_reads' HO423.out).2.1); rintro e w' ⟨rfl, ⟨nd, rfl⟩⟩))
            go_meet
            case rel => exact ⟨_, (true), (by first | rfl | (simp; done) | (simp [*]; done)), H', ⟨by first | omega | exact Nat.le_refl _⟩, ⟨by (with_reducible repeat (first | apply Kd.R_alloc | apply Kd.R_drewN | apply Kd.R_drew)); exact Kd.R_mono HO415.out (fun _ hk => ⟨hk.1.1.1.1.2, ⟨hk.1.1.2, ⟨hk.1.2, hk.2⟩⟩⟩)⟩, ⟨by (with_reducible repeat (first | apply Kd.R_alloc | apply Kd.R_drewN | apply Kd.R_drew)); exact Kd.R_mono HO418.out (fun _ hk => ⟨hk.1.1.1.1.2, ⟨hk.1.1.2, ⟨hk.1.2, hk.2⟩⟩⟩)⟩, ⟨by (with_reducible repeat (first | apply Kd.R_alloc | apply Kd.R_drewN | apply Kd.R_drew)); exact Kd.R_mono HO427.out (fun _ hk => ⟨hk.1.1.1.2, ⟨hk.1.1.2, ⟨hk.1.1.1.1.1, hk.2⟩⟩⟩)⟩, ⟨by (with_reducible repeat (first | apply Kd.R_alloc | apply Kd.R_drewN | apply Kd.R_drew)); exact Kd.R_mono HO429.out (fun _ hk => ⟨hk.1.1.1.2, ⟨hk.1.1.2, ⟨hk.1.1.1.1.1, hk.2⟩⟩⟩)⟩, ⟨by (with_reducible repeat (first | apply Kd.R_alloc | apply Kd.R_drewN | apply Kd.R_drew)); exact Kd.R_mono HO433.out (fun _ hk => trivial)⟩, ⟨by (with_reducible repeat (first | apply Kd.R_alloc | apply Kd.R_drewN | apply Kd.R_drew)); exact Kd.R_mono HO442.out (fun _ hk => ⟨hk.1.1.1.1.2, ⟨hk.1.1.1.2, ⟨hk.1.2, hk.2⟩⟩⟩)⟩, ⟨by repeat (first | (with_reducible first | exact HB.out | apply below_alloc | apply pw_below_drewN | apply below_drew1) | exact HB.out)⟩⟩
      · rw [if_neg c34] at H
        have c34b0 : (t419 == t421) = false := beq_eq_false_iff_ne.mpr c34
        have c34b1 : (t419 != t421) = true := bne_iff_ne.mpr c34
        (first | rw [c34b0] | (simp only [i64_w, i32_w]; rw [c34b0]) | skip)
        have H' := Aside0.mk H
        clear H
        as_aux_lemma =>
          go_wp2
          go_meet
          case rel => exact ⟨_, (true), (by first | rfl | (simp; done) | (simp [*]; done)), H', ⟨by first | omega | exact Nat.le_refl _⟩, ⟨by (with_reducible repeat (first | apply Kd.R_alloc | apply Kd.R_drewN | apply Kd.R_drew)); exact Kd.R_mono HO415.out (fun _ hk => ⟨hk.1.1.1.1.2, ⟨hk.1.1.2, ⟨hk.1.2, hk.2⟩⟩⟩)⟩, ⟨by (with_reducible repeat (first | apply Kd.R_alloc | apply Kd.R_drewN | apply Kd.R_drew)); exact Kd.R_mono HO418.out (fun _ hk => ⟨hk.1.1.1.1.2, ⟨hk.1.1.2, ⟨hk.1.2, hk.2⟩⟩⟩)⟩, ⟨by (with_reducible repeat (first | apply Kd.R_alloc | apply Kd.R_drewN | apply Kd.R_drew)); exact Kd.R_mono HO427.out (fun _ hk => ⟨hk.1.1.1.2, ⟨hk.1.1.2, ⟨hk.1.1.1.1.1, hk.2⟩⟩⟩)⟩, ⟨by (with_reducible repeat (first | apply Kd.R_alloc | apply Kd.R_drewN | apply Kd.R_drew)); exact Kd.R_mono HO429.out (fun _ hk => ⟨hk.1.1.1.2, ⟨hk.1.1.2, ⟨hk.1.1.1.1.1, hk.2⟩⟩⟩)⟩, ⟨by (with_reducible repeat (first | apply Kd.R_alloc | apply Kd.R_drewN | apply Kd.R_drew)); exact Kd.R_mono HO433.out (fun _ hk => trivial)⟩, ⟨by (with_reducible repeat (first | apply Kd.R_alloc | apply Kd.R_drewN | apply Kd.R_drew)); exact Kd.R_mono HO442.out (fun _ hk => ⟨hk.1.1.1.1.2, ⟨hk.1.1.1.2, ⟨hk.1.2, hk.2⟩⟩⟩)⟩, ⟨by repeat (first | (with_reducible first | exact HB.out | apply below_alloc | apply pw_below_drewN | apply below_drew1) | exact HB.out)⟩⟩
    case rest => as_aux_lemma =>
      clear HC18
      try clear p2
      try clear c3
      try clear c4
      try clear c5
      try clear c6
      try clear c7
      try clear c33
      try clear c34
      try clear c34b0
      try clear c34b1
      try clear c36
      try clear c37
      try clear c37b0
      try clear c37b1
      try clear c39
      try clear c40
      try clear c40b0
      try clear c40b1
      try clear c41
      try clear c41b0
      try clear c41b1
      try clear c42
      try clear c42b0
      try clear c42b1
      try clear c43
      try clear c43b0
      try clear c43b1
      try clear c44
      try clear c44b0
      try clear c44b1
      try clear c45
      try clear c45b0
      try clear c45b1
      try clear c52
      try clear c53
      try clear c54
      try clear c55
      try clear c56
      try clear c57
      try clear c58
      try clear c59
      try clear c60
      try clear c61
      try clear c62
      try clear c63
      try clear c64
      try clear c65
      obtain ⟨kq, x181_17, rfl, HA, HJ17, HO_4, HO_5, HO_9, HO_10, HO_11, HO_15, HB⟩ := hcut
      cases kq with
      | zero => exact absurd HA.out (by simp [laws_FnBills.j0])
      | succ kj17 =>
        have H := HA.out
        clear HA
        simp only [laws_FnBills.j0] at H
        by_cases c84 : x181_17 = true
        · subst c84
          have H1 : (some false) = some r := by rw [if_pos rfl] at H; exact H
          clear H
          have H := H1
          clear H1
          exact absurd ((Option.some.inj H).trans hT.out) (by decide)
        · replace c84 := Bool.eq_false_iff.mpr c84
          subst c84
          have H1 : (if t431 = 0 then ((impl_SumOfBill.f kj17 t424).bind fun bt460 => ((impl_SumOfBill.f kj17 t425).bind fun bt462 => (if bt460.2 = 0 then (if bt462.2 = 0 then ((laws_sum.f kj17 t430).bind fun t464 => (if t464 = (wrap64 (bt462.1 - bt460.1)) then (laws_FnBills.j1 kj17 t411 t416 t419 t438 t443 t444 t447 t448 t449 t450 t453) else (some false))) else (some false)) else (some false)))) else (laws_FnBills.j1 kj17 t411 t416 t419 t438 t443 t444 t447 t448 t449 t450 t453)) = some r := by rw [if_neg (show ¬ (false = true) by decide)] at H; exact H
          clear H
          have H := H1
          clear H1
          have HC85 := Aside0.mk H
          clear H
          go_upto_if 183 with (fail)
          go_cut [] (fun wc => ∃ (kq : Nat), Aside0 (laws_FnBills.j1 kq t411 t416 t419 t438 t443 t444 t447 t448 t449 t450 t453 = some r) ∧ Aside0 (kq ≤ kj17) ∧ Aside0 (Kd.R k107 107 wc w.heap.size (fun k_ => some k_ ≠ (v417 : Value).ownBlock ∧ some k_ ≠ ((.slice Ao30 t438.length co30) : Value).ownBlock) (.slice Ao21 t411.length co21) t411) ∧ Aside0 (Kd.R k107 107 wc w.heap.size (fun k_ => some k_ ≠ ((.slice Ao21 t411.length co21) : Value).ownBlock ∧ some k_ ≠ ((.slice Ao30 t438.length co30) : Value).ownBlock) v417 t416) ∧ Aside0 (Kd.R k107 107 wc w.heap.size (fun k_ => some k_ ≠ ((.slice Ao21 t411.length co21) : Value).ownBlock ∧ some k_ ≠ (v417 : Value).ownBlock) (.slice Ao30 t438.length co30) t438) ∧ Aside0 (Below w.heap.size w wc))
          case first => as_aux_lemma =>
            have H := HC85.out
            clear HC85
            by_cases c86 : t431 = 0
            · rw [if_pos c86] at H
              have c86b0 : (t431 == 0) = true := beq_iff_eq.mpr c86
              have c86b1 : (t431 != 0) = false := bne_eq_false_iff_eq.mpr c86
              clear c86
              (first | rw [c86b0] | (simp only [i64_w, i32_w]; rw [c86b0]) | skip)
              replace H := Option.bind_eq_some_iff.mp H
              obtain ⟨⟨t460, t461⟩, A870, H⟩ := H
              replace H : ((impl_SumOfBill.f kj17 t425).bind fun bt462 => (if t461 = 0 then (if bt462.2 = 0 then ((laws_sum.f kj17 t430).bind fun t464 => (if t464 = (wrap64 (bt462.1 - t460)) then (laws_FnBills.j1 kj17 t411 t416 t419 t438 t443 t444 t447 t448 t449 t450 t453) else (some false))) else (some false)) else (some false))) = some r := H
              have A87 := Aside0.mk A870
              clear A870
              replace H := Option.bind_eq_some_iff.mp H
              obtain ⟨⟨t462, t463⟩, A880, H⟩ := H
              replace H : (if t461 = 0 then (if t463 = 0 then ((laws_sum.f kj17 t430).bind fun t464 => (if t464 = (wrap64 (t462 - t460)) then (laws_FnBills.j1 kj17 t411 t416 t419 t438 t443 t444 t447 t448 t449 t450 t453) else (some false))) else (some false)) else (some false)) = some r := H
              have A88 := Aside0.mk A880
              clear A880
              by_cases c89 : t461 = 0
              · rw [if_pos c89] at H
                have c89b0 : (t461 == 0) = true := beq_iff_eq.mpr c89
                have c89b1 : (t461 != 0) = false := bne_eq_false_iff_eq.mpr c89
                clear c89
                by_cases c90 : t463 = 0
                · rw [if_pos c90] at H
                  have c90b0 : (t463 == 0) = true := beq_iff_eq.mpr c90
                  have c90b1 : (t463 != 0) = false := bne_eq_false_iff_eq.mpr c90
                  clear c90
                  replace H := Option.bind_eq_some_iff.mp H
                  obtain ⟨t464, A910, H⟩ := H
                  replace H : (if t464 = (wrap64 (t462 - t460)) then (laws_FnBills.j1 kj17 t411 t416 t419 t438 t443 t444 t447 t448 t449 t450 t453) else (some false)) = some r := H
                  have A91 := Aside0.mk A910
                  clear A910
                  by_cases c92 : t464 = (wrap64 (t462 - t460))
                  · rw [if_pos c92] at H
                    have c92b0 : (t464 == (wrap64 (t462 - t460))) = true := beq_iff_eq.mpr c92
                    have c92b1 : (t464 != (wrap64 (t462 - t460))) = false := bne_eq_false_iff_eq.mpr c92
                    clear c92
                    have H' := Aside0.mk H
                    clear H
                    as_aux_lemma =>
                      go_wp2_with (first | ((with_reducible refine gate_callee (f := 64) rfl ?_); refine goesL_ (some 186) rfl rfl Try.func64 (by kernel_rfl) rfl #[.slice Ao25 t424.length co25] rfl (by (try simp only [List.map_toArray, List.map_cons, List.map_nil]); first | done | rfl | (simp only [List.length_drop, List.length_take]; rfl)) ?_; (with_reducible refine (impl_SumOfBill.calls kj17 _ _ t424 t460 t461 _ ?side1 ?side2 A87.out).mono ?_); (case side1 => repeat (first | exact (Kd.R_reads' HO_9.out).2.2 | (with_reducible refine Kd.C_alloc ?_ _) | (with_reducible refine Kd.C_drewN ?_ _) | (with_reducible refine Kd.C_drew ?_))); (case side2 => exact (Kd.R_reads' HO_9.out).2.1); rintro e w93 ⟨rfl, hb⟩; refine ⟨_, rfl, ?_⟩; have n0_ := Aside0.mk (Kd.R_below (by (with_reducible repeat (first | apply Kd.R_alloc | apply Kd.R_drewN | apply Kd.R_drew)); exact HO_4.out) hb); have n1_ := Aside0.mk (Kd.R_below (by (with_reducible repeat (first | apply Kd.R_alloc | apply Kd.R_drewN | apply Kd.R_drew)); exact HO_5.out) hb); have n2_ := Aside0.mk (Kd.R_below (by (with_reducible repeat (first | apply Kd.R_alloc | apply Kd.R_drewN | apply Kd.R_drew)); exact HO_9.out) hb); have n3_ := Aside0.mk (Kd.R_below (by (with_reducible repeat (first | apply Kd.R_alloc | apply Kd.R_drewN | apply Kd.R_drew)); exact HO_10.out) hb); have n4_ := Aside0.mk (Kd.R_below (by (with_reducible repeat (first | apply Kd.R_alloc | apply Kd.R_drewN | apply Kd.R_drew)); exact HO_11.out) hb); have n5_ := Aside0.mk (Kd.R_below (by (with_reducible repeat (first | apply Kd.R_alloc | apply Kd.R_drewN | apply Kd.R_drew)); exact HO_15.out) hb); have n6_ := Aside0.mk (below_step (by repeat (first | (with_reducible first | exact HB.out | apply below_alloc | apply pw_below_drewN | apply below_drew1) | exact HB.out)) hb); clear HO_4; clear HO_5; clear HO_9; clear HO_10; clear HO_11; clear HO_15; clear HB; have HO_4 := n0_; have HO_5 := n1_; have HO_9 := n2_; have HO_10 := n3_; have HO_11 := n4_; have HO_15 := n5_; have HB := n6_; clear n0_ n1_ n2_ n3_ n4_ n5_ n6_; (try clear hb); (try clear hb2); (try clear hk); (try clear hi)) | ((with_reducible refine gate_callee (f := 64) rfl ?_); refine goesL_ (some 191) rfl rfl Try.func64 (by kernel_rfl) rfl #[.slice Ao26 t425.length co26] rfl (by (try simp only [List.map_toArray, List.map_cons, List.map_nil]); first | done | rfl | (simp only [List.length_drop, List.length_take]; rfl)) ?_; (with_reducible refine (impl_SumOfBill.calls kj17 _ _ t425 t462 t463 _ ?side1 ?side2 A88.out).mono ?_); (case side1 => repeat (first | exact (Kd.R_reads' HO_10.out).2.2 | (with_reducible refine Kd.C_alloc ?_ _) | (with_reducible refine Kd.C_drewN ?_ _) | (with_reducible refine Kd.C_drew ?_))); (case side2 => exact (Kd.R_reads' HO_10.out).2.1); rintro e w94 ⟨rfl, hb⟩; refine ⟨_, rfl, ?_⟩; have n0_ := Aside0.mk (Kd.R_below (by (with_reducible repeat (first | apply Kd.R_alloc | apply Kd.R_drewN | apply Kd.R_drew)); exact HO_4.out) hb); have n1_ := Aside0.mk (Kd.R_below (by (with_reducible repeat (first | apply Kd.R_alloc | apply Kd.R_drewN | apply Kd.R_drew)); exact HO_5.out) hb); have n2_ := Aside0.mk (Kd.R_below (by (with_reducible repeat (first | apply Kd.R_alloc | apply Kd.R_drewN | apply Kd.R_drew)); exact HO_9.out) hb); have n3_ := Aside0.mk (Kd.R_below (by (with_reducible repeat (first | apply Kd.R_alloc | apply Kd.R_drewN | apply Kd.R_drew)); exact HO_10.out) hb); have n4_ := Aside0.mk (Kd.R_below (by (with_reducible repeat (first | apply Kd.R_alloc | apply Kd.R_drewN | apply Kd.R_drew)); exact HO_11.out) hb); have n5_ := Aside0.mk (Kd.R_below (by (with_reducible repeat (first | apply Kd.R_alloc | apply Kd.R_drewN | apply Kd.R_drew)); exact HO_15.out) hb); have n6_ := Aside0.mk (below_step (by repeat (first | (with_reducible first | exact HB.out | apply below_alloc | apply pw_below_drewN | apply below_drew1) | exact HB.out)) hb); clear HO_4; clear HO_5; clear HO_9; clear HO_10; clear HO_11; clear HO_15; clear HB; have HO_4 := n0_; have HO_5 := n1_; have HO_9 := n2_; have HO_10 := n3_; have HO_11 := n4_; have HO_15 := n5_; have HB := n6_; clear n0_ n1_ n2_ n3_ n4_ n5_ n6_; (try clear hb); (try clear hb2); (try clear hk); (try clear hi); obtain ⟨Ao95, co95, eo95⟩ := Kd.R_slice HO_11.out; subst eo95) | (go_at_call 68; (with_reducible refine (laws_sum.calls kj17 _ _ t430 t464 _ ?side1 ?side2 A91.out).mono ?_); (case side1 => repeat (first | exact (Kd.R_reads' HO_11.out).2.2 | (with_reducible refine Kd.C_alloc ?_ _) | (with_reducible refine Kd.C_drewN ?_ _) | (with_reducible refine Kd.C_drew ?_))); (case side2 => exact (Kd.R_reads' HO_11.out).2.1); rintro e w' ⟨rfl, ⟨nd, rfl⟩⟩))
                      go_meet
                      case rel => exact ⟨_, H', ⟨by have := HJ17.out; first | omega | exact Nat.le_refl _⟩, ⟨by (with_reducible repeat (first | apply Kd.R_alloc | apply Kd.R_drewN | apply Kd.R_drew)); exact Kd.R_mono HO_4.out (fun _ hk => ⟨hk.1, hk.2.2.2⟩)⟩, ⟨by (with_reducible repeat (first | apply Kd.R_alloc | apply Kd.R_drewN | apply Kd.R_drew)); exact Kd.R_mono HO_5.out (fun _ hk => ⟨hk.1, hk.2.2.2⟩)⟩, ⟨by (with_reducible repeat (first | apply Kd.R_alloc | apply Kd.R_drewN | apply Kd.R_drew)); exact Kd.R_mono HO_15.out (fun _ hk => ⟨hk.1, hk.2.1⟩)⟩, ⟨by repeat (first | (with_reducible first | exact HB.out | apply below_alloc | apply pw_below_drewN | apply below_drew1) | exact HB.out)⟩⟩
                  · rw [if_neg c92] at H
                    have c92b0 : (t464 == (wrap64 (t462 - t460))) = false := beq_eq_false_iff_ne.mpr c92
                    have c92b1 : (t464 != (wrap64 (t462 - t460))) = true := bne_iff_ne.mpr c92
                    exact absurd ((Option.some.inj H).trans hT.out) (by decide)
                · rw [if_neg c90] at H
                  have c90b0 : (t463 == 0) = false := beq_eq_false_iff_ne.mpr c90
                  have c90b1 : (t463 != 0) = true := bne_iff_ne.mpr c90
                  exact absurd ((Option.some.inj H).trans hT.out) (by decide)
              · rw [if_neg c89] at H
                have c89b0 : (t461 == 0) = false := beq_eq_false_iff_ne.mpr c89
                have c89b1 : (t461 != 0) = true := bne_iff_ne.mpr c89
                exact absurd ((Option.some.inj H).trans hT.out) (by decide)
            · rw [if_neg c86] at H
              have c86b0 : (t431 == 0) = false := beq_eq_false_iff_ne.mpr c86
              have c86b1 : (t431 != 0) = true := bne_iff_ne.mpr c86
              (first | rw [c86b0] | (simp only [i64_w, i32_w]; rw [c86b0]) | skip)
              have H' := Aside0.mk H
              clear H
              as_aux_lemma =>
                go_wp2
                go_meet
                case rel => exact ⟨_, H', ⟨by have := HJ17.out; first | omega | exact Nat.le_refl _⟩, ⟨by (with_reducible repeat (first | apply Kd.R_alloc | apply Kd.R_drewN | apply Kd.R_drew)); exact Kd.R_mono HO_4.out (fun _ hk => ⟨hk.1, hk.2.2.2⟩)⟩, ⟨by (with_reducible repeat (first | apply Kd.R_alloc | apply Kd.R_drewN | apply Kd.R_drew)); exact Kd.R_mono HO_5.out (fun _ hk => ⟨hk.1, hk.2.2.2⟩)⟩, ⟨by (with_reducible repeat (first | apply Kd.R_alloc | apply Kd.R_drewN | apply Kd.R_drew)); exact Kd.R_mono HO_15.out (fun _ hk => ⟨hk.1, hk.2.1⟩)⟩, ⟨by repeat (first | (with_reducible first | exact HB.out | apply below_alloc | apply pw_below_drewN | apply below_drew1) | exact HB.out)⟩⟩
          case rest => as_aux_lemma =>
            clear HC85
            try clear p2
            try clear c3
            try clear c4
            try clear c5
            try clear c6
            try clear p6
            try clear c7
            try clear c8
            try clear c9
            try clear c33
            try clear c34
            try clear c34b0
            try clear c34b1
            try clear c36
            try clear c37
            try clear c37b0
            try clear c37b1
            try clear c39
            try clear c40
            try clear c40b0
            try clear c40b1
            try clear c41
            try clear c41b0
            try clear c41b1
            try clear c42
            try clear c42b0
            try clear c42b1
            try clear c43
            try clear c43b0
            try clear c43b1
            try clear c44
            try clear c44b0
            try clear c44b1
            try clear c45
            try clear c45b0
            try clear c45b1
            try clear c52
            try clear c53
            try clear c54
            try clear c55
            try clear c56
            try clear c57
            try clear c58
            try clear c59
            try clear c60
            try clear c61
            try clear c62
            try clear c63
            try clear c64
            try clear p64
            try clear c65
            try clear c84
            try clear c86
            try clear c86b0
            try clear c86b1
            try clear c89
            try clear c89b0
            try clear c89b1
            try clear c90
            try clear c90b0
            try clear c90b1
            try clear c92
            try clear c92b0
            try clear c92b1
            try clear p2
            obtain ⟨kq, HA, HJ84, HO_4, HO_5, HO_15, HB⟩ := hcut
            cases kq with
            | zero => exact absurd HA.out (by simp [laws_FnBills.j1])
            | succ kj84 =>
              have H := HA.out
              clear HA
              simp only [laws_FnBills.j1] at H
              have HC96 := Aside0.mk H
              clear H
              go_upto_if 209 with (fail)
              go_cut [] (fun wc => ∃ (kq : Nat), Aside0 (laws_FnBills.j2 kq t411 t416 t419 t447 t448 t449 t450 t453 = some r) ∧ Aside0 (kq ≤ kj84) ∧ Aside0 (Kd.R k107 107 wc w.heap.size (fun k_ => some k_ ≠ (v417 : Value).ownBlock) (.slice Ao21 t411.length co21) t411) ∧ Aside0 (Kd.R k107 107 wc w.heap.size (fun k_ => some k_ ≠ ((.slice Ao21 t411.length co21) : Value).ownBlock) v417 t416) ∧ Aside0 (Below w.heap.size w wc))
              case first => as_aux_lemma =>
                have H := HC96.out
                clear HC96
                by_cases c97 : t444 = 0
                · rw [if_pos c97] at H
                  have c97b0 : (t444 == 0) = true := beq_iff_eq.mpr c97
                  have c97b1 : (t444 != 0) = false := bne_eq_false_iff_eq.mpr c97
                  clear c97
                  (first | rw [c97b0] | (simp only [i64_w, i32_w]; rw [c97b0]) | skip)
                  replace H := Option.bind_eq_some_iff.mp H
                  obtain ⟨⟨t465, t466⟩, A980, H⟩ := H
                  replace H : (if t466 = 0 then (if t443 < t465 then (some false) else (laws_FnBills.j2 kj84 t411 t416 t419 t447 t448 t449 t450 t453)) else (some false)) = some r := H
                  have A98 := Aside0.mk A980
                  clear A980
                  by_cases c99 : t466 = 0
                  · rw [if_pos c99] at H
                    have c99b0 : (t466 == 0) = true := beq_iff_eq.mpr c99
                    have c99b1 : (t466 != 0) = false := bne_eq_false_iff_eq.mpr c99
                    clear c99
                    by_cases c100 : t443 < t465
                    · rw [if_pos c100] at H
                      have c100b0 : decide (t443 < t465) = true := decide_eq_true c100
                      clear c100
                      exact absurd ((Option.some.inj H).trans hT.out) (by decide)
                    · rw [if_neg c100] at H
                      have c100b0 : decide (t443 < t465) = false := decide_eq_false c100
                      clear c100
                      have H' := Aside0.mk H
                      clear H
                      as_aux_lemma =>
                        go_wp2_with (first | ((with_reducible refine gate_callee (f := 64) rfl ?_); refine goesL_ (some 212) rfl rfl Try.func64 (by kernel_rfl) rfl #[.slice Ao30 t438.length co30] rfl (by (try simp only [List.map_toArray, List.map_cons, List.map_nil]); first | done | rfl | (simp only [List.length_drop, List.length_take]; rfl)) ?_; (with_reducible refine (impl_SumOfBill.calls kj84 _ _ t438 t465 t466 _ ?side1 ?side2 A98.out).mono ?_); (case side1 => repeat (first | exact (Kd.R_reads' HO_15.out).2.2 | (with_reducible refine Kd.C_alloc ?_ _) | (with_reducible refine Kd.C_drewN ?_ _) | (with_reducible refine Kd.C_drew ?_))); (case side2 => exact (Kd.R_reads' HO_15.out).2.1); rintro e w101 ⟨rfl, hb⟩; refine ⟨_, rfl, ?_⟩; have n0_ := Aside0.mk (Kd.R_below (by (with_reducible repeat (first | apply Kd.R_alloc | apply Kd.R_drewN | apply Kd.R_drew)); exact HO_4.out) hb); have n1_ := Aside0.mk (Kd.R_below (by (with_reducible repeat (first | apply Kd.R_alloc | apply Kd.R_drewN | apply Kd.R_drew)); exact HO_5.out) hb); have n2_ := Aside0.mk (Kd.R_below (by (with_reducible repeat (first | apply Kd.R_alloc | apply Kd.R_drewN | apply Kd.R_drew)); exact HO_15.out) hb); have n3_ := Aside0.mk (below_step (by repeat (first | (with_reducible first | exact HB.out | apply below_alloc | apply pw_below_drewN | apply below_drew1) | exact HB.out)) hb); clear HO_4; clear HO_5; clear HO_15; clear HB; have HO_4 := n0_; have HO_5 := n1_; have HO_15 := n2_; have HB := n3_; clear n0_ n1_ n2_ n3_; (try clear hb); (try clear hb2); (try clear hk); (try clear hi)))
                        go_meet
                        case rel => exact ⟨_, H', ⟨by have := HJ17.out; have := HJ84.out; first | omega | exact Nat.le_refl _⟩, ⟨by (with_reducible repeat (first | apply Kd.R_alloc | apply Kd.R_drewN | apply Kd.R_drew)); exact Kd.R_mono HO_4.out (fun _ hk => hk.1)⟩, ⟨by (with_reducible repeat (first | apply Kd.R_alloc | apply Kd.R_drewN | apply Kd.R_drew)); exact Kd.R_mono HO_5.out (fun _ hk => hk.1)⟩, ⟨by repeat (first | (with_reducible first | exact HB.out | apply below_alloc | apply pw_below_drewN | apply below_drew1) | exact HB.out)⟩⟩
                  · rw [if_neg c99] at H
                    have c99b0 : (t466 == 0) = false := beq_eq_false_iff_ne.mpr c99
                    have c99b1 : (t466 != 0) = true := bne_iff_ne.mpr c99
                    exact absurd ((Option.some.inj H).trans hT.out) (by decide)
                · rw [if_neg c97] at H
                  have c97b0 : (t444 == 0) = false := beq_eq_false_iff_ne.mpr c97
                  have c97b1 : (t444 != 0) = true := bne_iff_ne.mpr c97
                  (first | rw [c97b0] | (simp only [i64_w, i32_w]; rw [c97b0]) | skip)
                  have H' := Aside0.mk H
                  clear H
                  as_aux_lemma =>
                    go_wp2
                    go_meet
                    case rel => exact ⟨_, H', ⟨by have := HJ17.out; have := HJ84.out; first | omega | exact Nat.le_refl _⟩, ⟨by (with_reducible repeat (first | apply Kd.R_alloc | apply Kd.R_drewN | apply Kd.R_drew)); exact Kd.R_mono HO_4.out (fun _ hk => hk.1)⟩, ⟨by (with_reducible repeat (first | apply Kd.R_alloc | apply Kd.R_drewN | apply Kd.R_drew)); exact Kd.R_mono HO_5.out (fun _ hk => hk.1)⟩, ⟨by repeat (first | (with_reducible first | exact HB.out | apply below_alloc | apply pw_below_drewN | apply below_drew1) | exact HB.out)⟩⟩
              case rest => as_aux_lemma =>
                clear HC96
                try clear c1
                try clear p2
                try clear c3
                try clear c4
                try clear c5
                try clear c6
                try clear p6
                try clear c7
                try clear c8
                try clear c9
                try clear c10
                try clear c33
                try clear c34
                try clear c34b0
                try clear c34b1
                try clear c36
                try clear c37
                try clear c37b0
                try clear c37b1
                try clear c39
                try clear c40
                try clear c40b0
                try clear c40b1
                try clear c41
                try clear c41b0
                try clear c41b1
                try clear c42
                try clear c42b0
                try clear c42b1
                try clear c43
                try clear c43b0
                try clear c43b1
                try clear c44
                try clear c44b0
                try clear c44b1
                try clear c45
                try clear c45b0
                try clear c45b1
                try clear c52
                try clear c53
                try clear c54
                try clear c55
                try clear c56
                try clear c57
                try clear c58
                try clear c59
                try clear c60
                try clear c61
                try clear c62
                try clear c63
                try clear c64
                try clear p64
                try clear c65
                try clear c84
                try clear c86
                try clear c86b0
                try clear c86b1
                try clear c89
                try clear c89b0
                try clear c89b1
                try clear c90
                try clear c90b0
                try clear c90b1
                try clear c92
                try clear c92b0
                try clear c92b1
                try clear c97
                try clear c97b0
                try clear c97b1
                try clear c99
                try clear c99b0
                try clear c99b1
                try clear c100
                try clear c100b0
                try clear p2
                try clear p6
                try clear p64
                obtain ⟨kq, HA, HJ95, HO_4, HO_5, HB⟩ := hcut
                cases kq with
                | zero => exact absurd HA.out (by simp [laws_FnBills.j2])
                | succ kj95 =>
                  have H := HA.out
                  clear HA
                  simp only [laws_FnBills.j2] at H
                  have HC102 := Aside0.mk H
                  clear H
                  go_upto_region 28 with (fail)
                  go_cut [244] (fun v244 wc => ∃ (kq : Nat) (x244_101 : Bool), v244 = .bool x244_101 ∧ Aside0 (laws_FnBills.j3 kq t411 t416 t419 t453 x244_101 = some r) ∧ Aside0 (kq ≤ kj95) ∧ Aside0 (Kd.R k107 107 wc w.heap.size (fun k_ => some k_ ≠ (v417 : Value).ownBlock) (.slice Ao21 t411.length co21) t411) ∧ Aside0 (Kd.R k107 107 wc w.heap.size (fun k_ => some k_ ≠ ((.slice Ao21 t411.length co21) : Value).ownBlock) v417 t416) ∧ Aside0 (Below w.heap.size w wc))
                  case first => as_aux_lemma =>
                    have H := HC102.out
                    clear HC102
                    by_cases c103 : t450 = 0
                    · rw [if_pos c103] at H
                      have c103b0 : (t450 == 0) = true := beq_iff_eq.mpr c103
                      have c103b1 : (t450 != 0) = false := bne_eq_false_iff_eq.mpr c103
                      clear c103
                      (first | rw [c103b0] | (simp only [i64_w, i32_w]; rw [c103b0]) | skip)
                      by_cases c104 : (wrap64 (100 * (wrap64 (t449 - t447)))) < (wrap64 (t447 * t448))
                      · rw [if_pos c104] at H
                        have c104b0 : decide ((wrap64 (100 * (wrap64 (t449 - t447)))) < (wrap64 (t447 * t448))) = true := decide_eq_true c104
                        clear c104
                        have H' := Aside0.mk H
                        clear H
                        as_aux_lemma =>
                          go_wp2
                          go_meet
                          case rel => exact ⟨_, (true), (by first | rfl | (simp; done) | (simp [*]; done)), H', ⟨by have := HJ17.out; have := HJ84.out; have := HJ95.out; first | omega | exact Nat.le_refl _⟩, ⟨by (with_reducible repeat (first | apply Kd.R_alloc | apply Kd.R_drewN | apply Kd.R_drew)); exact HO_4.out⟩, ⟨by (with_reducible repeat (first | apply Kd.R_alloc | apply Kd.R_drewN | apply Kd.R_drew)); exact HO_5.out⟩, ⟨by repeat (first | (with_reducible first | exact HB.out | apply below_alloc | apply pw_below_drewN | apply below_drew1) | exact HB.out)⟩⟩
                      · rw [if_neg c104] at H
                        have c104b0 : decide ((wrap64 (100 * (wrap64 (t449 - t447)))) < (wrap64 (t447 * t448))) = false := decide_eq_false c104
                        clear c104
                        have H' := Aside0.mk H
                        clear H
                        as_aux_lemma =>
                          go_wp2
                          go_meet
                          case rel => exact ⟨_, (decide ((wrap64 (100 * (wrap64 (t449 - t447)))) ≥ (wrap64 ((wrap64 (t447 * t448)) + 100)))), (by first | rfl | (simp; done) | (simp [*]; done)), H', ⟨by have := HJ17.out; have := HJ84.out; have := HJ95.out; first | omega | exact Nat.le_refl _⟩, ⟨by (with_reducible repeat (first | apply Kd.R_alloc | apply Kd.R_drewN | apply Kd.R_drew)); exact HO_4.out⟩, ⟨by (with_reducible repeat (first | apply Kd.R_alloc | apply Kd.R_drewN | apply Kd.R_drew)); exact HO_5.out⟩, ⟨by repeat (first | (with_reducible first | exact HB.out | apply below_alloc | apply pw_below_drewN | apply below_drew1) | exact HB.out)⟩⟩
                    · rw [if_neg c103] at H
                      have c103b0 : (t450 == 0) = false := beq_eq_false_iff_ne.mpr c103
                      have c103b1 : (t450 != 0) = true := bne_iff_ne.mpr c103
                      (first | rw [c103b0] | (simp only [i64_w, i32_w]; rw [c103b0]) | skip)
                      have H' := Aside0.mk H
                      clear H
                      as_aux_lemma =>
                        go_wp2
                        go_meet
                        case rel => exact ⟨_, (false), (by first | rfl | (simp; done) | (simp [*]; done)), H', ⟨by have := HJ17.out; have := HJ84.out; have := HJ95.out; first | omega | exact Nat.le_refl _⟩, ⟨by (with_reducible repeat (first | apply Kd.R_alloc | apply Kd.R_drewN | apply Kd.R_drew)); exact HO_4.out⟩, ⟨by (with_reducible repeat (first | apply Kd.R_alloc | apply Kd.R_drewN | apply Kd.R_drew)); exact HO_5.out⟩, ⟨by repeat (first | (with_reducible first | exact HB.out | apply below_alloc | apply pw_below_drewN | apply below_drew1) | exact HB.out)⟩⟩
                  case rest => as_aux_lemma =>
                    clear HC102
                    try clear c1
                    try clear p2
                    try clear c3
                    try clear c4
                    try clear c5
                    try clear c6
                    try clear p6
                    try clear c7
                    try clear c8
                    try clear c9
                    try clear c10
                    try clear c33
                    try clear c34
                    try clear c34b0
                    try clear c34b1
                    try clear c36
                    try clear c37
                    try clear c37b0
                    try clear c37b1
                    try clear c39
                    try clear c40
                    try clear c40b0
                    try clear c40b1
                    try clear c41
                    try clear c41b0
                    try clear c41b1
                    try clear c42
                    try clear c42b0
                    try clear c42b1
                    try clear c43
                    try clear c43b0
                    try clear c43b1
                    try clear c44
                    try clear c44b0
                    try clear c44b1
                    try clear c45
                    try clear c45b0
                    try clear c45b1
                    try clear c52
                    try clear c53
                    try clear c54
                    try clear c55
                    try clear c56
                    try clear c57
                    try clear c58
                    try clear c59
                    try clear c60
                    try clear c61
                    try clear c62
                    try clear c63
                    try clear c64
                    try clear p64
                    try clear c65
                    try clear c84
                    try clear c86
                    try clear c86b0
                    try clear c86b1
                    try clear c89
                    try clear c89b0
                    try clear c89b1
                    try clear c90
                    try clear c90b0
                    try clear c90b1
                    try clear c92
                    try clear c92b0
                    try clear c92b1
                    try clear c97
                    try clear c97b0
                    try clear c97b1
                    try clear c99
                    try clear c99b0
                    try clear c99b1
                    try clear c100
                    try clear c100b0
                    try clear c103
                    try clear c103b0
                    try clear c103b1
                    try clear c104
                    try clear c104b0
                    try clear p2
                    try clear p6
                    try clear p64
                    obtain ⟨kq, x244_101, rfl, HA, HJ101, HO_4, HO_5, HB⟩ := hcut
                    cases kq with
                    | zero => exact absurd HA.out (by simp [laws_FnBills.j3])
                    | succ kj101 =>
                      have H := HA.out
                      clear HA
                      simp only [laws_FnBills.j3] at H
                      by_cases c105 : x244_101 = true
                      · subst c105
                        have H1 : (some false) = some r := by rw [if_pos rfl] at H; exact H
                        clear H
                        have H := H1
                        clear H1
                        exact absurd ((Option.some.inj H).trans hT.out) (by decide)
                      · replace c105 := Bool.eq_false_iff.mpr c105
                        subst c105
                        have H1 : (if t419 = 0 then ((impl_SumOfBill.f kj101 t416).bind fun bt467 => ((impl_SumOfBill.f kj101 t411).bind fun bt469 => (if bt467.2 = 0 then (if bt469.2 = 0 then (some (bt467.1 == (wrap64 (t453 + bt469.1)))) else (some false)) else (some false)))) else (some true)) = some r := by rw [if_neg (show ¬ (false = true) by decide)] at H; exact H
                        clear H
                        have H := H1
                        clear H1
                        by_cases c106 : t419 = 0
                        · rw [if_pos c106] at H
                          have c106b0 : (t419 == 0) = true := beq_iff_eq.mpr c106
                          have c106b1 : (t419 != 0) = false := bne_eq_false_iff_eq.mpr c106
                          clear c106
                          replace H := Option.bind_eq_some_iff.mp H
                          obtain ⟨⟨t467, t468⟩, A1070, H⟩ := H
                          replace H : ((impl_SumOfBill.f kj101 t411).bind fun bt469 => (if t468 = 0 then (if bt469.2 = 0 then (some (t467 == (wrap64 (t453 + bt469.1)))) else (some false)) else (some false))) = some r := H
                          have A107 := Aside0.mk A1070
                          clear A1070
                          replace H := Option.bind_eq_some_iff.mp H
                          obtain ⟨⟨t469, t470⟩, A1080, H⟩ := H
                          replace H : (if t468 = 0 then (if t470 = 0 then (some (t467 == (wrap64 (t453 + t469)))) else (some false)) else (some false)) = some r := H
                          have A108 := Aside0.mk A1080
                          clear A1080
                          by_cases c109 : t468 = 0
                          · rw [if_pos c109] at H
                            have c109b0 : (t468 == 0) = true := beq_iff_eq.mpr c109
                            have c109b1 : (t468 != 0) = false := bne_eq_false_iff_eq.mpr c109
                            clear c109
                            by_cases c110 : t470 = 0
                            · rw [if_pos c110] at H
                              have c110b0 : (t470 == 0) = true := beq_iff_eq.mpr c110
                              have c110b1 : (t470 != 0) = false := bne_eq_false_iff_eq.mpr c110
                              clear c110
                              obtain rfl := Option.some.inj H
                              obtain ⟨Ao111, co111, eo111⟩ := Kd.R_slice HO_5.out
                              subst eo111
                              as_aux_lemma =>
                                go_wp2_with (first | ((with_reducible refine gate_callee (f := 64) rfl ?_); refine goesL_ (some 249) rfl rfl Try.func64 (by kernel_rfl) rfl #[.slice Ao111 t416.length co111] rfl (by (try simp only [List.map_toArray, List.map_cons, List.map_nil]); first | done | rfl | (simp only [List.length_drop, List.length_take]; rfl)) ?_; (with_reducible refine (impl_SumOfBill.calls kj101 _ _ t416 t467 t468 _ ?side1 ?side2 A107.out).mono ?_); (case side1 => repeat (first | exact (Kd.R_reads' HO_5.out).2.2 | (with_reducible refine Kd.C_alloc ?_ _) | (with_reducible refine Kd.C_drewN ?_ _) | (with_reducible refine Kd.C_drew ?_))); (case side2 => exact (Kd.R_reads' HO_5.out).2.1); rintro e w112 ⟨rfl, hb⟩; refine ⟨_, rfl, ?_⟩; have n0_ := Aside0.mk (Kd.R_below (by (with_reducible repeat (first | apply Kd.R_alloc | apply Kd.R_drewN | apply Kd.R_drew)); exact HO_4.out) hb); have n1_ := Aside0.mk (Kd.R_below (by (with_reducible repeat (first | apply Kd.R_alloc | apply Kd.R_drewN | apply Kd.R_drew)); exact HO_5.out) hb); have n2_ := Aside0.mk (below_step (by repeat (first | (with_reducible first | exact HB.out | apply below_alloc | apply pw_below_drewN | apply below_drew1) | exact HB.out)) hb); clear HO_4; clear HO_5; clear HB; have HO_4 := n0_; have HO_5 := n1_; have HB := n2_; clear n0_ n1_ n2_; (try clear hb); (try clear hb2); (try clear hk); (try clear hi)) | ((with_reducible refine gate_callee (f := 64) rfl ?_); refine goesL_ (some 254) rfl rfl Try.func64 (by kernel_rfl) rfl #[.slice Ao21 t411.length co21] rfl (by (try simp only [List.map_toArray, List.map_cons, List.map_nil]); first | done | rfl | (simp only [List.length_drop, List.length_take]; rfl)) ?_; (with_reducible refine (impl_SumOfBill.calls kj101 _ _ t411 t469 t470 _ ?side1 ?side2 A108.out).mono ?_); (case side1 => repeat (first | exact (Kd.R_reads' HO_4.out).2.2 | (with_reducible refine Kd.C_alloc ?_ _) | (with_reducible refine Kd.C_drewN ?_ _) | (with_reducible refine Kd.C_drew ?_))); (case side2 => exact (Kd.R_reads' HO_4.out).2.1); rintro e w113 ⟨rfl, hb⟩; refine ⟨_, rfl, ?_⟩; have n0_ := Aside0.mk (Kd.R_below (by (with_reducible repeat (first | apply Kd.R_alloc | apply Kd.R_drewN | apply Kd.R_drew)); exact HO_4.out) hb); have n1_ := Aside0.mk (Kd.R_below (by (with_reducible repeat (first | apply Kd.R_alloc | apply Kd.R_drewN | apply Kd.R_drew)); exact HO_5.out) hb); have n2_ := Aside0.mk (below_step (by repeat (first | (with_reducible first | exact HB.out | apply below_alloc | apply pw_below_drewN | apply below_drew1) | exact HB.out)) hb); clear HO_4; clear HO_5; clear HB; have HO_4 := n0_; have HO_5 := n1_; have HB := n2_; clear n0_ n1_ n2_; (try clear hb); (try clear hb2); (try clear hk); (try clear hi)))
                                go_ret
                                exact ⟨by first | rfl | (simp [errW_none, errW_some] <;> rfl) | (simp [*, errW_none, errW_some] <;> rfl), by repeat (first | (with_reducible first | exact HB.out | apply below_alloc | apply pw_below_drewN | apply below_drew1) | exact HB.out)⟩
                            · rw [if_neg c110] at H
                              have c110b0 : (t470 == 0) = false := beq_eq_false_iff_ne.mpr c110
                              have c110b1 : (t470 != 0) = true := bne_iff_ne.mpr c110
                              exact absurd ((Option.some.inj H).trans hT.out) (by decide)
                          · rw [if_neg c109] at H
                            have c109b0 : (t468 == 0) = false := beq_eq_false_iff_ne.mpr c109
                            have c109b1 : (t468 != 0) = true := bne_iff_ne.mpr c109
                            exact absurd ((Option.some.inj H).trans hT.out) (by decide)
                        · rw [if_neg c106] at H
                          have c106b0 : (t419 == 0) = false := beq_eq_false_iff_ne.mpr c106
                          have c106b1 : (t419 != 0) = true := bne_iff_ne.mpr c106
                          obtain rfl := Option.some.inj H
                          as_aux_lemma =>
                            go_wp2
                            go_ret
                            exact ⟨by first | rfl | (simp [errW_none, errW_some] <;> rfl) | (simp [*, errW_none, errW_some] <;> rfl), by repeat (first | (with_reducible first | exact HB.out | apply below_alloc | apply pw_below_drewN | apply below_drew1) | exact HB.out)⟩

/-- The one pure statement of laws_FnBills. -/
def laws_FnBills.Pure : Prop := ∀ (l0 : List Int), l0.length * 1 ≤ 140737488351232 → (∀ x ∈ l0, (Lit.int .u8 x).wf = true) → ∃ k, laws_FnBills.f k l0 = some true
theorem laws_FnBills.walk (P : laws_FnBills.Pure) (A0 : Option Addr) (c0 : Nat) (l0 : List Int) (w : World) (w0_0 : l0.length * 1 ≤ 140737488351232) (w0_1 : (∀ x ∈ l0, (Lit.int .u8 x).wf = true)) (hr0 : Kd.C (Kd.int .u8) w A0 l0.length l0) (hc0 : l0.length ≤ c0) :
    Calls Try.prog 7 #[.slice A0 l0.length c0] w fun e w' => e = .returned (.bool true) ∧ Below w.heap.size w w' := by
  obtain ⟨k, h⟩ := P l0 w0_0 w0_1
  refine (laws_FnBills.calls k A0 c0 l0 true w ⟨rfl⟩ hr0 hc0 h).mono ?_
  rintro e w' ⟨rfl, hd⟩
  exact ⟨rfl, hd⟩

end Go.Proofs.Ytefnoiajfjbbpaa.PFnBills
