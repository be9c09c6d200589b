-- Printed by the session (wip/myprint.py).
import Derived.Test.YtcieonfpmchdkaaPFnBestOrdersx0
import Derived.Test.YtcieonfpmchdkaaPFnBestOrdersx3
import Derived.Test.YtcieonfpmchdkaaPFnBestOrdersx4
import Derived.Test.YtcieonfpmchdkaaPFnBestOrdersx7
import Derived.Test.YtcieonfpmchdkaaPFnBestOrdersx8
import Derived.Test.YtcieonfpmchdkaaPFnBestOrdersx10
import Derived.Test.YtcieonfpmchdkaaPFnBestOrdersx11
import Derived.Test.YtcieonfpmchdkaaPFnBestOrdersx13
import Derived.Test.YtcieonfpmchdkaaPFnBestOrdersx14
namespace Go.Proofs.Ytcieonfpmchdkaa.PFnBestOrders
open Go.RowKit Go.Proofs.YtcieonfpmchdkaaW.PrintWords Go.Proofs.YtcieonfpmchdkaaW.PrintLast Go.Proofs.YtcieonfpmchdkaaW.PrintMore
attribute [local go_sem] max2_int min2_int max_two min_two max_three min_three max_four min_four   -- for this text's walks alone
set_option linter.unusedVariables false
set_option linter.unusedSimpArgs false

/-! ### laws_FnBestOrders: function 5 -/
mutual
def laws_FnBestOrders.j0 : Nat → Int → List (S56) → List Int → Int → List Int → List Int → Bool → Option (Bool)
 | 0, _, _, _, _, _, _, _ => none
 | k + 1, x3, x4, x5, x6, x9, x13, x108 => if x108 = true then (some false) else (if x6 = 0 then (laws_FnBestOrders.j1 k x3 x4 x5 x9 x13 ((x4.length : Int) == 0)) else (laws_FnBestOrders.j1 k x3 x4 x5 x9 x13 true))
def laws_FnBestOrders.j1 : Nat → Int → List (S56) → List Int → List Int → List Int → Bool → Option (Bool)
 | 0, _, _, _, _, _, _ => none
 | k + 1, x3, x4, x5, x9, x13, x115 => if x115 = true then (some true) else ((impl_MostLate.f k x3 x4 x5).bind fun bt490 => ((impl_MostLate.f k x3 x4 x9).bind fun bt492 => ((impl_MostLate.f k x3 x4 x13).bind fun bt494 => ((impl_CountSetups.f k x3 x4 x13).bind fun bt496 => (laws_FnBestOrders.l0 k x3 x4 bt490.1 bt490.2 bt492.1 bt492.2 bt494.1 bt494.2 bt496.1 bt496.2 (([] : List Int)) 0)))))
def laws_FnBestOrders.l0 : Nat → Int → List (S56) → Int → Int → Int → Int → Int → Int → Int → Int → List Int → Int → Option (Bool)
 | 0, _, _, _, _, _, _, _, _, _, _, _, _ => none
 | k + 1, x3, x4, x17, x18, x19, x20, x21, x22, x23, x24, x25, x26 => if x26 < (x4.length : Int) then (if 0 ≤ x26 then ((laws_hasInt.f k x25 ((rd_T56 x4 x26).f0)).bind fun t502 => (if t502 = true then (laws_FnBestOrders.l0 k x3 x4 x17 x18 x19 x20 x21 x22 x23 x24 x25 (wrap64 (x26 + 1))) else (if x25.length < 17592186044416 then (laws_FnBestOrders.l0 k x3 x4 x17 x18 x19 x20 x21 x22 x23 x24 (x25 ++ [(rd_T56 x4 x26).f0]) (wrap64 (x26 + 1))) else (none)))) else (none)) else (if x18 = 0 then (if x20 = 0 then (if x22 = 0 then (if x17 ≤ x19 then (if x17 ≤ x21 then (if x3 > 0 then (if x24 = 0 then (some (x23 == (x25.length : Int))) else (some false)) else (if x17 = x19 then (if x24 = 0 then (some (x23 == (x25.length : Int))) else (some false)) else (some false))) else (some false)) else (some false)) else (some false)) else (some false)) else (some false))
end
def laws_FnBestOrders.f (k : Nat) (l0 : List Int) : Option (Bool) := (laws_big.f l0).bind fun t457 => (if t457 = true then (some true) else ((spec_DrawBestOrder.f k l0).bind fun bt458 => ((impl_BestOrder.f k bt458.1 bt458.2).bind fun bt462 => ((spec_BestOrder.f k bt458.1 bt458.2).bind fun bt466 => ((impl_DueOrder.f k bt458.1 bt458.2).bind fun bt470 => ((spec_DueOrder.f k bt458.1 bt458.2).bind fun bt474 => ((impl_FamilyOrder.f k bt458.1 bt458.2).bind fun bt478 => ((spec_FamilyOrder.f k bt458.1 bt458.2).bind fun bt482 => (if bt462.2 = bt466.2 then ((laws_likeInts.f k bt462.1 bt466.1).bind fun t486 => (if t486 = true then (if bt470.2 = bt474.2 then ((laws_likeInts.f k bt470.1 bt474.1).bind fun t487 => (if t487 = true then (if bt478.2 = bt482.2 then ((laws_likeInts.f k bt478.1 bt482.1).bind fun t488 => (if t488 = true then ((impl_IsShop.f k bt458.1 bt458.2).bind fun t489 => (laws_FnBestOrders.j0 k bt458.1 bt458.2 bt462.1 bt462.2 bt470.1 bt478.1 (t489 != (bt466.2 == 0)))) else (laws_FnBestOrders.j0 k bt458.1 bt458.2 bt462.1 bt462.2 bt470.1 bt478.1 true))) else (laws_FnBestOrders.j0 k bt458.1 bt458.2 bt462.1 bt462.2 bt470.1 bt478.1 true)) else (laws_FnBestOrders.j0 k bt458.1 bt458.2 bt462.1 bt462.2 bt470.1 bt478.1 true))) else (laws_FnBestOrders.j0 k bt458.1 bt458.2 bt462.1 bt462.2 bt470.1 bt478.1 true)) else (laws_FnBestOrders.j0 k bt458.1 bt458.2 bt462.1 bt462.2 bt470.1 bt478.1 true))) else (laws_FnBestOrders.j0 k bt458.1 bt458.2 bt462.1 bt462.2 bt470.1 bt478.1 true))))))))))
theorem laws_FnBestOrders.mono_l : ∀ k, (∀ y0 y1 y2 y3 y4 y5 y6, LeO (laws_FnBestOrders.j0 k y0 y1 y2 y3 y4 y5 y6) (laws_FnBestOrders.j0 (k + 1) y0 y1 y2 y3 y4 y5 y6)) ∧ (∀ y0 y1 y2 y3 y4 y5, LeO (laws_FnBestOrders.j1 k y0 y1 y2 y3 y4 y5) (laws_FnBestOrders.j1 (k + 1) y0 y1 y2 y3 y4 y5)) ∧ (∀ y0 y1 y2 y3 y4 y5 y6 y7 y8 y9 y10 y11, LeO (laws_FnBestOrders.l0 k y0 y1 y2 y3 y4 y5 y6 y7 y8 y9 y10 y11) (laws_FnBestOrders.l0 (k + 1) y0 y1 y2 y3 y4 y5 y6 y7 y8 y9 y10 y11))
 | 0 => ⟨fun _ _ _ _ _ _ _ r h => by simp [laws_FnBestOrders.j0] at h, fun _ _ _ _ _ _ r h => by simp [laws_FnBestOrders.j1] at h, fun _ _ _ _ _ _ _ _ _ _ _ _ r h => by simp [laws_FnBestOrders.l0] at h⟩
 | k + 1 => by
  obtain ⟨ih0, ih1, ih2⟩ := laws_FnBestOrders.mono_l k
  refine ⟨?_, ?_, ?_⟩
  ·
   intro y0 y1 y2 y3 y4 y5 y6
   unfold laws_FnBestOrders.j0
   repeat' first
   | (with_reducible exact ih0 _ _ _ _ _ _ _)
   | (with_reducible exact ih1 _ _ _ _ _ _)
   | (with_reducible exact ih2 _ _ _ _ _ _ _ _ _ _ _ _)
   | (with_reducible exact impl_BestOrder.mono _ _ _)
   | (with_reducible exact impl_CountSetups.mono _ _ _ _)
   | (with_reducible exact impl_DueOrder.mono _ _ _)
   | (with_reducible exact impl_FamilyOrder.mono _ _ _)
   | (with_reducible exact impl_IsShop.mono _ _ _)
   | (with_reducible exact impl_MostLate.mono _ _ _ _)
   | (with_reducible exact laws_hasInt.mono _ _ _)
   | (with_reducible exact laws_likeInts.mono _ _ _)
   | (with_reducible exact spec_BestOrder.mono _ _ _)
   | (with_reducible exact spec_DrawBestOrder.mono _ _)
   | (with_reducible exact spec_DueOrder.mono _ _ _)
   | (with_reducible exact spec_FamilyOrder.mono _ _ _)
   | (with_reducible exact LeO.refl _)
   | (with_reducible exact LeO.none _)
   | (with_reducible refine LeO.ite ?_ ?_)
   | (with_reducible refine LeO.bind ?_ (fun _ => ?_))
   | exact ih0 _ _ _ _ _ _ _
   | exact ih1 _ _ _ _ _ _
   | exact ih2 _ _ _ _ _ _ _ _ _ _ _ _
   | exact impl_BestOrder.mono _ _ _
   | exact impl_CountSetups.mono _ _ _ _
   | exact impl_DueOrder.mono _ _ _
   | exact impl_FamilyOrder.mono _ _ _
   | exact impl_IsShop.mono _ _ _
   | exact impl_MostLate.mono _ _ _ _
   | exact laws_hasInt.mono _ _ _
   | exact laws_likeInts.mono _ _ _
   | exact spec_BestOrder.mono _ _ _
   | exact spec_DrawBestOrder.mono _ _
   | exact spec_DueOrder.mono _ _ _
   | exact spec_FamilyOrder.mono _ _ _
   | exact LeO.none _
   | refine LeO.ite ?_ ?_
   | refine LeO.bind ?_ (fun _ => ?_)
  ·
   intro y0 y1 y2 y3 y4 y5
   unfold laws_FnBestOrders.j1
   repeat' first
   | (with_reducible exact ih0 _ _ _ _ _ _ _)
   | (with_reducible exact ih1 _ _ _ _ _ _)
   | (with_reducible exact ih2 _ _ _ _ _ _ _ _ _ _ _ _)
   | (with_reducible exact impl_BestOrder.mono _ _ _)
   | (with_reducible exact impl_CountSetups.mono _ _ _ _)
   | (with_reducible exact impl_DueOrder.mono _ _ _)
   | (with_reducible exact impl_FamilyOrder.mono _ _ _)
   | (with_reducible exact impl_IsShop.mono _ _ _)
   | (with_reducible exact impl_MostLate.mono _ _ _ _)
   | (with_reducible exact laws_hasInt.mono _ _ _)
   | (with_reducible exact laws_likeInts.mono _ _ _)
   | (with_reducible exact spec_BestOrder.mono _ _ _)
   | (with_reducible exact spec_DrawBestOrder.mono _ _)
   | (with_reducible exact spec_DueOrder.mono _ _ _)
   | (with_reducible exact spec_FamilyOrder.mono _ _ _)
   | (with_reducible exact LeO.refl _)
   | (with_reducible exact LeO.none _)
   | (with_reducible refine LeO.ite ?_ ?_)
   | (with_reducible refine LeO.bind ?_ (fun _ => ?_))
   | exact ih0 _ _ _ _ _ _ _
   | exact ih1 _ _ _ _ _ _
   | exact ih2 _ _ _ _ _ _ _ _ _ _ _ _
   | exact impl_BestOrder.mono _ _ _
   | exact impl_CountSetups.mono _ _ _ _
   | exact impl_DueOrder.mono _ _ _
   | exact impl_FamilyOrder.mono _ _ _
   | exact impl_IsShop.mono _ _ _
   | exact impl_MostLate.mono _ _ _ _
   | exact laws_hasInt.mono _ _ _
   | exact laws_likeInts.mono _ _ _
   | exact spec_BestOrder.mono _ _ _
   | exact spec_DrawBestOrder.mono _ _
   | exact spec_DueOrder.mono _ _ _
   | exact spec_FamilyOrder.mono _ _ _
   | exact LeO.none _
   | refine LeO.ite ?_ ?_
   | refine LeO.bind ?_ (fun _ => ?_)
  ·
   intro y0 y1 y2 y3 y4 y5 y6 y7 y8 y9 y10 y11
   unfold laws_FnBestOrders.l0
   repeat' first
   | (with_reducible exact ih0 _ _ _ _ _ _ _)
   | (with_reducible exact ih1 _ _ _ _ _ _)
   | (with_reducible exact ih2 _ _ _ _ _ _ _ _ _ _ _ _)
   | (with_reducible exact impl_BestOrder.mono _ _ _)
   | (with_reducible exact impl_CountSetups.mono _ _ _ _)
   | (with_reducible exact impl_DueOrder.mono _ _ _)
   | (with_reducible exact impl_FamilyOrder.mono _ _ _)
   | (with_reducible exact impl_IsShop.mono _ _ _)
   | (with_reducible exact impl_MostLate.mono _ _ _ _)
   | (with_reducible exact laws_hasInt.mono _ _ _)
   | (with_reducible exact laws_likeInts.mono _ _ _)
   | (with_reducible exact spec_BestOrder.mono _ _ _)
   | (with_reducible exact spec_DrawBestOrder.mono _ _)
   | (with_reducible exact spec_DueOrder.mono _ _ _)
   | (with_reducible exact spec_FamilyOrder.mono _ _ _)
   | (with_reducible exact LeO.refl _)
   | (with_reducible exact LeO.none _)
   | (with_reducible refine LeO.ite ?_ ?_)
   | (with_reducible refine LeO.bind ?_ (fun _ => ?_))
   | exact ih0 _ _ _ _ _ _ _
   | exact ih1 _ _ _ _ _ _
   | exact ih2 _ _ _ _ _ _ _ _ _ _ _ _
   | exact impl_BestOrder.mono _ _ _
   | exact impl_CountSetups.mono _ _ _ _
   | exact impl_DueOrder.mono _ _ _
   | exact impl_FamilyOrder.mono _ _ _
   | exact impl_IsShop.mono _ _ _
   | exact impl_MostLate.mono _ _ _ _
   | exact laws_hasInt.mono _ _ _
   | exact laws_likeInts.mono _ _ _
   | exact spec_BestOrder.mono _ _ _
   | exact spec_DrawBestOrder.mono _ _
   | exact spec_DueOrder.mono _ _ _
   | exact spec_FamilyOrder.mono _ _ _
   | exact LeO.none _
   | refine LeO.ite ?_ ?_
   | refine LeO.bind ?_ (fun _ => ?_)
theorem laws_FnBestOrders.mono : ∀ a0 k, LeO (laws_FnBestOrders.f k a0) (laws_FnBestOrders.f (k + 1) a0) := by
 intro a0 k
 obtain ⟨ih0, ih1, ih2⟩ := laws_FnBestOrders.mono_l k
 unfold laws_FnBestOrders.f
 repeat' first
   | (with_reducible exact ih0 _ _ _ _ _ _ _)
   | (with_reducible exact ih1 _ _ _ _ _ _)
   | (with_reducible exact ih2 _ _ _ _ _ _ _ _ _ _ _ _)
   | (with_reducible exact impl_BestOrder.mono _ _ _)
   | (with_reducible exact impl_CountSetups.mono _ _ _ _)
   | (with_reducible exact impl_DueOrder.mono _ _ _)
   | (with_reducible exact impl_FamilyOrder.mono _ _ _)
   | (with_reducible exact impl_IsShop.mono _ _ _)
   | (with_reducible exact impl_MostLate.mono _ _ _ _)
   | (with_reducible exact laws_hasInt.mono _ _ _)
   | (with_reducible exact laws_likeInts.mono _ _ _)
   | (with_reducible exact spec_BestOrder.mono _ _ _)
   | (with_reducible exact spec_DrawBestOrder.mono _ _)
   | (with_reducible exact spec_DueOrder.mono _ _ _)
   | (with_reducible exact spec_FamilyOrder.mono _ _ _)
   | (with_reducible exact LeO.refl _)
   | (with_reducible exact LeO.none _)
   | (with_reducible refine LeO.ite ?_ ?_)
   | (with_reducible refine LeO.bind ?_ (fun _ => ?_))
   | exact ih0 _ _ _ _ _ _ _
   | exact ih1 _ _ _ _ _ _
   | exact ih2 _ _ _ _ _ _ _ _ _ _ _ _
   | exact impl_BestOrder.mono _ _ _
   | exact impl_CountSetups.mono _ _ _ _
   | exact impl_DueOrder.mono _ _ _
   | exact impl_FamilyOrder.mono _ _ _
   | exact impl_IsShop.mono _ _ _
   | exact impl_MostLate.mono _ _ _ _
   | exact laws_hasInt.mono _ _ _
   | exact laws_likeInts.mono _ _ _
   | exact spec_BestOrder.mono _ _ _
   | exact spec_DrawBestOrder.mono _ _
   | exact spec_DueOrder.mono _ _ _
   | exact spec_FamilyOrder.mono _ _ _
   | exact LeO.none _
   | refine LeO.ite ?_ ?_
   | refine LeO.bind ?_ (fun _ => ?_)
theorem laws_FnBestOrders.j0_no {r : Bool} (hT : r = true) {k : Nat} {y0} {y1} {y2} {y3} {y4} {y5} {P : Prop} (h : laws_FnBestOrders.j0 k y0 y1 y2 y3 y4 y5 true = some r) : P := by
 cases k with
 | zero => rw [laws_FnBestOrders.j0] at h; cases h
 | succ k => rw [laws_FnBestOrders.j0, if_pos rfl] at h; exact absurd ((Option.some.inj h).trans hT) (by decide)
set_option maxHeartbeats 8000000 in
set_option maxRecDepth 100000 in
theorem laws_FnBestOrders.calls (k : Nat) (A0 : Option Addr) (c0 : Nat) (l0 : List Int) (r : Bool) (w : World) (hT : Aside0 (r = true)) (hr0 : Kd.C (Kd.int .u8) w A0 l0.length l0) (hc0 : l0.length ≤ c0) (h : laws_FnBestOrders.f k l0 = some r) :
  Calls Try.prog 5 #[.slice A0 l0.length c0] w fun e w' => e = .returned (.bool r) ∧ Below w.heap.size w w' := by
 have HR0 := Aside0.mk hr0
 have HC0 := Aside0.mk hc0
 clear hr0 hc0
 have HB := Aside0.mk (Below.refl w.heap.size w)
 have H : ((laws_big.f l0).bind fun t457 => (if t457 = true then (some true) else ((spec_DrawBestOrder.f k l0).bind fun bt458 => ((impl_BestOrder.f k bt458.1 bt458.2).bind fun bt462 => ((spec_BestOrder.f k bt458.1 bt458.2).bind fun bt466 => ((impl_DueOrder.f k bt458.1 bt458.2).bind fun bt470 => ((spec_DueOrder.f k bt458.1 bt458.2).bind fun bt474 => ((impl_FamilyOrder.f k bt458.1 bt458.2).bind fun bt478 => ((spec_FamilyOrder.f k bt458.1 bt458.2).bind fun bt482 => (if bt462.2 = bt466.2 then ((laws_likeInts.f k bt462.1 bt466.1).bind fun t486 => (if t486 = true then (if bt470.2 = bt474.2 then ((laws_likeInts.f k bt470.1 bt474.1).bind fun t487 => (if t487 = true then (if bt478.2 = bt482.2 then ((laws_likeInts.f k bt478.1 bt482.1).bind fun t488 => (if t488 = true then ((impl_IsShop.f k bt458.1 bt458.2).bind fun t489 => (laws_FnBestOrders.j0 k bt458.1 bt458.2 bt462.1 bt462.2 bt470.1 bt478.1 (t489 != (bt466.2 == 0)))) else (laws_FnBestOrders.j0 k bt458.1 bt458.2 bt462.1 bt462.2 bt470.1 bt478.1 true))) else (laws_FnBestOrders.j0 k bt458.1 bt458.2 bt462.1 bt462.2 bt470.1 bt478.1 true)) else (laws_FnBestOrders.j0 k bt458.1 bt458.2 bt462.1 bt462.2 bt470.1 bt478.1 true))) else (laws_FnBestOrders.j0 k bt458.1 bt458.2 bt462.1 bt462.2 bt470.1 bt478.1 true)) else (laws_FnBestOrders.j0 k bt458.1 bt458.2 bt462.1 bt462.2 bt470.1 bt478.1 true))) else (laws_FnBestOrders.j0 k bt458.1 bt458.2 bt462.1 bt462.2 bt470.1 bt478.1 true))))))))))) = some r := h
 clear h
 replace H := Option.bind_eq_some_iff.mp H
 obtain ⟨t457, A20, H⟩ := H
 (try dsimp only at H)
 have A2 := Aside0.mk A20
 clear A20
 by_cases c3 : t457 = true
 ·
  subst c3
  have H1 : (some true) = some r := by rw [if_pos rfl] at H; exact H
  clear H
  have H := H1
  clear H1
  obtain rfl := Option.some.inj H
  go_enter Try.func5, Try.ntmps5
  go_wp2_with (first | ((with_reducible refine gate_callee (f := 25) rfl ?_); refine goesL_ (some 28) rfl rfl Try.func25 (by kernel_rfl) rfl #[.slice A0 l0.length c0] rfl (by (try simp only [List.map_toArray, List.map_cons, List.map_nil]); first | done | rfl | (simp only [List.length_drop, List.length_take]; rfl)) ?_; (with_reducible refine (laws_big.calls _ _ l0 true _ ?side1 ?side2 A2.out).mono ?_); (case side1 => repeat (first | exact HR0.out | (with_reducible refine cA_ ?_ _) | (with_reducible refine cN_ ?_ _) | (with_reducible refine cW_ ?_))); (case side2 => exact HC0.out); rintro e w' ⟨rfl, ⟨nd, rfl⟩⟩; refine ⟨_, rfl, ?_⟩))
  go_ret
  exact ⟨by first | rfl | (simp [errW_none, errW_some] <;> rfl) | (simp [*, errW_none, errW_some] <;> rfl), by repeat (first | (with_reducible first | exact HB.out | apply bA_ | apply bN_ | apply bW_) | exact HB.out)⟩
 ·
  replace c3 := Bool.eq_false_iff.mpr c3
  subst c3
  have H1 : ((spec_DrawBestOrder.f k l0).bind fun bt458 => ((impl_BestOrder.f k bt458.1 bt458.2).bind fun bt462 => ((spec_BestOrder.f k bt458.1 bt458.2).bind fun bt466 => ((impl_DueOrder.f k bt458.1 bt458.2).bind fun bt470 => ((spec_DueOrder.f k bt458.1 bt458.2).bind fun bt474 => ((impl_FamilyOrder.f k bt458.1 bt458.2).bind fun bt478 => ((spec_FamilyOrder.f k bt458.1 bt458.2).bind fun bt482 => (if bt462.2 = bt466.2 then ((laws_likeInts.f k bt462.1 bt466.1).bind fun t486 => (if t486 = true then (if bt470.2 = bt474.2 then ((laws_likeInts.f k bt470.1 bt474.1).bind fun t487 => (if t487 = true then (if bt478.2 = bt482.2 then ((laws_likeInts.f k bt478.1 bt482.1).bind fun t488 => (if t488 = true then ((impl_IsShop.f k bt458.1 bt458.2).bind fun t489 => (laws_FnBestOrders.j0 k bt458.1 bt458.2 bt462.1 bt462.2 bt470.1 bt478.1 (t489 != (bt466.2 == 0)))) else (laws_FnBestOrders.j0 k bt458.1 bt458.2 bt462.1 bt462.2 bt470.1 bt478.1 true))) else (laws_FnBestOrders.j0 k bt458.1 bt458.2 bt462.1 bt462.2 bt470.1 bt478.1 true)) else (laws_FnBestOrders.j0 k bt458.1 bt458.2 bt462.1 bt462.2 bt470.1 bt478.1 true))) else (laws_FnBestOrders.j0 k bt458.1 bt458.2 bt462.1 bt462.2 bt470.1 bt478.1 true)) else (laws_FnBestOrders.j0 k bt458.1 bt458.2 bt462.1 bt462.2 bt470.1 bt478.1 true))) else (laws_FnBestOrders.j0 k bt458.1 bt458.2 bt462.1 bt462.2 bt470.1 bt478.1 true))))))))) = some r := by rw [if_neg (show ¬ (false = true) by decide)] at H; exact H
  clear H
  have H := H1
  clear H1
  replace H := Option.bind_eq_some_iff.mp H
  obtain ⟨⟨t458, t459⟩, A40, H⟩ := H
  (try dsimp only at H)
  have A4 := Aside0.mk A40
  clear A40
  replace H := Option.bind_eq_some_iff.mp H
  obtain ⟨⟨t462, t463⟩, A50, H⟩ := H
  (try dsimp only at H)
  have A5 := Aside0.mk A50
  clear A50
  replace H := Option.bind_eq_some_iff.mp H
  obtain ⟨⟨t466, t467⟩, A60, H⟩ := H
  (try dsimp only at H)
  have A6 := Aside0.mk A60
  clear A60
  replace H := Option.bind_eq_some_iff.mp H
  obtain ⟨⟨t470, t471⟩, A70, H⟩ := H
  (try dsimp only at H)
  have A7 := Aside0.mk A70
  clear A70
  replace H := Option.bind_eq_some_iff.mp H
  obtain ⟨⟨t474, t475⟩, A80, H⟩ := H
  (try dsimp only at H)
  have A8 := Aside0.mk A80
  clear A80
  replace H := Option.bind_eq_some_iff.mp H
  obtain ⟨⟨t478, t479⟩, A90, H⟩ := H
  (try dsimp only at H)
  have A9 := Aside0.mk A90
  clear A90
  replace H := Option.bind_eq_some_iff.mp H
  obtain ⟨⟨t482, t483⟩, A100, H⟩ := H
  (try dsimp only at H)
  have A10 := Aside0.mk A100
  clear A100
  have HC11 := Aside0.mk H
  clear H
  go_enter Try.func5, Try.ntmps5
  go_upto_region 10 with (first | ((with_reducible refine gate_callee (f := 25) rfl ?_); refine goesL_ (some 28) rfl rfl Try.func25 (by kernel_rfl) rfl #[.slice A0 l0.length c0] rfl (by (try simp only [List.map_toArray, List.map_cons, List.map_nil]); first | done | rfl | (simp only [List.length_drop, List.length_take]; rfl)) ?_; (with_reducible refine (laws_big.calls _ _ l0 false _ ?side1 ?side2 A2.out).mono ?_); (case side1 => repeat (first | exact HR0.out | (with_reducible refine cA_ ?_ _) | (with_reducible refine cN_ ?_ _) | (with_reducible refine cW_ ?_))); (case side2 => exact HC0.out); rintro e w' ⟨rfl, ⟨nd, rfl⟩⟩; refine ⟨_, rfl, ?_⟩) | ((with_reducible refine gate_callee (f := 26) rfl ?_); refine goesL_ (some 31) rfl rfl Try.func26 (by kernel_rfl) rfl #[.slice A0 l0.length c0] rfl (by (try simp only [List.map_toArray, List.map_cons, List.map_nil]); first | done | rfl | (simp only [List.length_drop, List.length_take]; rfl)) ?_; (with_reducible refine (spec_DrawBestOrder.calls k _ _ l0 t458 t459 _ ?side1 ?side2 A4.out).mono ?_); (case side1 => repeat (first | exact HR0.out | (with_reducible refine cA_ ?_ _) | (with_reducible refine cN_ ?_ _) | (with_reducible refine cW_ ?_))); (case side2 => exact HC0.out); rintro e w12 ⟨v460, rfl, ho0, hb⟩; refine ⟨_, rfl, ?_⟩; have n0_ := Aside0.mk (Kd.R_lower ho0 (below_size (by repeat (first | (with_reducible first | exact HB.out | apply bA_ | apply bN_ | apply bW_) | exact HB.out)))); have n1_ := Aside0.mk (below_step (by repeat (first | (with_reducible first | exact HB.out | apply bA_ | apply bN_ | apply bW_) | exact HB.out)) hb); clear HB; have HO461 := n0_; have HB := n1_; clear n0_ n1_; (try clear hb); (try clear hb2); (try clear hk); (try clear hi); (try clear ho0); obtain ⟨Ao13, co13, eo13⟩ := Kd.R_slice HO461.out; subst eo13) | ((with_reducible refine gate_callee (f := 27) rfl ?_); refine goesL_ (some 37) rfl rfl Try.func27 (by kernel_rfl) rfl #[.int .i64 t458, .slice Ao13 t459.length co13] rfl (by (try simp only [List.map_toArray, List.map_cons, List.map_nil]); first | done | rfl | (simp only [List.length_drop, List.length_take]; rfl)) ?_; (with_reducible refine (impl_BestOrder.calls k t458 _ _ t459 t462 t463 _ ?side1 ?side2 A5.out).mono ?_); (case side1 => repeat (first | exact (Kd.R_reads' HO461.out).2.2 | (with_reducible refine cA_ ?_ _) | (with_reducible refine cN_ ?_ _) | (with_reducible refine cW_ ?_))); (case side2 => exact (Kd.R_reads' HO461.out).2.1); rintro e w14 ⟨v464, rfl, ho0, hb⟩; refine ⟨_, rfl, ?_⟩; have n0_ := Aside0.mk (Kd.R_below (by (with_reducible repeat (first | apply rA_ | apply rN_ | apply rW_)); exact HO461.out) hb); have n1_ := Aside0.mk (Kd.R_lower ho0 (below_size (by repeat (first | (with_reducible first | exact HB.out | apply bA_ | apply bN_ | apply bW_) | exact HB.out)))); have n2_ := Aside0.mk (below_step (by repeat (first | (with_reducible first | exact HB.out | apply bA_ | apply bN_ | apply bW_) | exact HB.out)) hb); clear HO461; clear HB; have HO461 := n0_; have HO465 := n1_; have HB := n2_; clear n0_ n1_ n2_; (try clear hb); (try clear hb2); (try clear hk); (try clear hi); (try clear ho0)) | ((with_reducible refine gate_callee (f := 28) rfl ?_); refine goesL_ (some 43) rfl rfl Try.func28 (by kernel_rfl) rfl #[.int .i64 t458, .slice Ao13 t459.length co13] rfl (by (try simp only [List.map_toArray, List.map_cons, List.map_nil]); first | done | rfl | (simp only [List.length_drop, List.length_take]; rfl)) ?_; (with_reducible refine (spec_BestOrder.calls k t458 _ _ t459 t466 t467 _ ?side1 ?side2 A6.out).mono ?_); (case side1 => repeat (first | exact (Kd.R_reads' HO461.out).2.2 | (with_reducible refine cA_ ?_ _) | (with_reducible refine cN_ ?_ _) | (with_reducible refine cW_ ?_))); (case side2 => exact (Kd.R_reads' HO461.out).2.1); rintro e w15 ⟨v468, rfl, ho0, hb⟩; refine ⟨_, rfl, ?_⟩; have n0_ := Aside0.mk (Kd.R_below (by (with_reducible repeat (first | apply rA_ | apply rN_ | apply rW_)); exact HO461.out) hb); have n1_ := Aside0.mk (Kd.R_elder' (by (with_reducible repeat (first | apply rA_ | apply rN_ | apply rW_)); exact HO465.out) (Kd.R_base ho0) hb); have n2_ := Aside0.mk (Kd.R_lower (Kd.R_new' ho0 (Kd.R_lt (by (with_reducible repeat (first | apply rA_ | apply rN_ | apply rW_)); exact HO465.out))) (below_size (by repeat (first | (with_reducible first | exact HB.out | apply bA_ | apply bN_ | apply bW_) | exact HB.out)))); have n3_ := Aside0.mk (below_step (by repeat (first | (with_reducible first | exact HB.out | apply bA_ | apply bN_ | apply bW_) | exact HB.out)) hb); clear HO461; clear HO465; clear HB; have HO461 := n0_; have HO465 := n1_; have HO469 := n2_; have HB := n3_; clear n0_ n1_ n2_ n3_; (try clear hb); (try clear hb2); (try clear hk); (try clear hi); (try clear ho0)) | ((with_reducible refine gate_callee (f := 29) rfl ?_); refine goesL_ (some 49) rfl rfl Try.func29 (by kernel_rfl) rfl #[.int .i64 t458, .slice Ao13 t459.length co13] rfl (by (try simp only [List.map_toArray, List.map_cons, List.map_nil]); first | done | rfl | (simp only [List.length_drop, List.length_take]; rfl)) ?_; (with_reducible refine (impl_DueOrder.calls k t458 _ _ t459 t470 t471 _ ?side1 ?side2 A7.out).mono ?_); (case side1 => repeat (first | exact (Kd.R_reads' HO461.out).2.2 | (with_reducible refine cA_ ?_ _) | (with_reducible refine cN_ ?_ _) | (with_reducible refine cW_ ?_))); (case side2 => exact (Kd.R_reads' HO461.out).2.1); rintro e w16 ⟨v472, rfl, ho0, hb⟩; refine ⟨_, rfl, ?_⟩; have n0_ := Aside0.mk (Kd.R_below (by (with_reducible repeat (first | apply rA_ | apply rN_ | apply rW_)); exact HO461.out) hb); have n1_ := Aside0.mk (Kd.R_elder' (by (with_reducible repeat (first | apply rA_ | apply rN_ | apply rW_)); exact HO465.out) (Kd.R_base ho0) hb); have n2_ := Aside0.mk (Kd.R_elder' (by (with_reducible repeat (first | apply rA_ | apply rN_ | apply rW_)); exact HO469.out) (Kd.R_base ho0) hb); have n3_ := Aside0.mk (Kd.R_lower (Kd.R_new' (Kd.R_new' ho0 (Kd.R_lt (by (with_reducible repeat (first | apply rA_ | apply rN_ | apply rW_)); exact HO465.out))) (Kd.R_lt (by (with_reducible repeat (first | apply rA_ | apply rN_ | apply rW_)); exact HO469.out))) (below_size (by repeat (first | (with_reducible first | exact HB.out | apply bA_ | apply bN_ | apply bW_) | exact HB.out)))); have n4_ := Aside0.mk (below_step (by repeat (first | (with_reducible first | exact HB.out | apply bA_ | apply bN_ | apply bW_) | exact HB.out)) hb); clear HO461; clear HO465; clear HO469; clear HB; have HO461 := n0_; have HO465 := n1_; have HO469 := n2_; have HO473 := n3_; have HB := n4_; clear n0_ n1_ n2_ n3_ n4_; (try clear hb); (try clear hb2); (try clear hk); (try clear hi); (try clear ho0)) | ((with_reducible refine gate_callee (f := 30) rfl ?_); refine goesL_ (some 55) rfl rfl Try.func30 (by kernel_rfl) rfl #[.int .i64 t458, .slice Ao13 t459.length co13] rfl (by (try simp only [List.map_toArray, List.map_cons, List.map_nil]); first | done | rfl | (simp only [List.length_drop, List.length_take]; rfl)) ?_; (with_reducible refine (spec_DueOrder.calls k t458 _ _ t459 t474 t475 _ ?side1 ?side2 A8.out).mono ?_); (case side1 => repeat (first | exact (Kd.R_reads' HO461.out).2.2 | (with_reducible refine cA_ ?_ _) | (with_reducible refine cN_ ?_ _) | (with_reducible refine cW_ ?_))); (case side2 => exact (Kd.R_reads' HO461.out).2.1); rintro e w17 ⟨v476, rfl, ho0, hb⟩; refine ⟨_, rfl, ?_⟩; have n0_ := Aside0.mk (Kd.R_below (by (with_reducible repeat (first | apply rA_ | apply rN_ | apply rW_)); exact HO461.out) hb); have n1_ := Aside0.mk (Kd.R_elder' (by (with_reducible repeat (first | apply rA_ | apply rN_ | apply rW_)); exact HO465.out) (Kd.R_base ho0) hb); have n2_ := Aside0.mk (Kd.R_elder' (by (with_reducible repeat (first | apply rA_ | apply rN_ | apply rW_)); exact HO469.out) (Kd.R_base ho0) hb); have n3_ := Aside0.mk (Kd.R_elder' (by (with_reducible repeat (first | apply rA_ | apply rN_ | apply rW_)); exact HO473.out) (Kd.R_base ho0) hb); have n4_ := Aside0.mk (Kd.R_lower (Kd.R_new' (Kd.R_new' (Kd.R_new' ho0 (Kd.R_lt (by (with_reducible repeat (first | apply rA_ | apply rN_ | apply rW_)); exact HO465.out))) (Kd.R_lt (by (with_reducible repeat (first | apply rA_ | apply rN_ | apply rW_)); exact HO469.out))) (Kd.R_lt (by (with_reducible repeat (first | apply rA_ | apply rN_ | apply rW_)); exact HO473.out))) (below_size (by repeat (first | (with_reducible first | exact HB.out | apply bA_ | apply bN_ | apply bW_) | exact HB.out)))); have n5_ := Aside0.mk (below_step (by repeat (first | (with_reducible first | exact HB.out | apply bA_ | apply bN_ | apply bW_) | exact HB.out)) hb); clear HO461; clear HO465; clear HO469; clear HO473; clear HB; have HO461 := n0_; have HO465 := n1_; have HO469 := n2_; have HO473 := n3_; have HO477 := n4_; have HB := n5_; clear n0_ n1_ n2_ n3_ n4_ n5_; (try clear hb); (try clear hb2); (try clear hk); (try clear hi); (try clear ho0)) | ((with_reducible refine gate_callee (f := 21) rfl ?_); refine goesL_ (some 61) rfl rfl Try.func21 (by kernel_rfl) rfl #[.int .i64 t458, .slice Ao13 t459.length co13] rfl (by (try simp only [List.map_toArray, List.map_cons, List.map_nil]); first | done | rfl | (simp only [List.length_drop, List.length_take]; rfl)) ?_; (with_reducible refine (impl_FamilyOrder.calls k t458 _ _ t459 t478 t479 _ ?side1 ?side2 A9.out).mono ?_); (case side1 => repeat (first | exact (Kd.R_reads' HO461.out).2.2 | (with_reducible refine cA_ ?_ _) | (with_reducible refine cN_ ?_ _) | (with_reducible refine cW_ ?_))); (case side2 => exact (Kd.R_reads' HO461.out).2.1); rintro e w18 ⟨v480, rfl, ho0, hb⟩; refine ⟨_, rfl, ?_⟩; have n0_ := Aside0.mk (Kd.R_below (by (with_reducible repeat (first | apply rA_ | apply rN_ | apply rW_)); exact HO461.out) hb); have n1_ := Aside0.mk (Kd.R_elder' (by (with_reducible repeat (first | apply rA_ | apply rN_ | apply rW_)); exact HO465.out) (Kd.R_base ho0) hb); have n2_ := Aside0.mk (Kd.R_elder' (by (with_reducible repeat (first | apply rA_ | apply rN_ | apply rW_)); exact HO469.out) (Kd.R_base ho0) hb); have n3_ := Aside0.mk (Kd.R_elder' (by (with_reducible repeat (first | apply rA_ | apply rN_ | apply rW_)); exact HO473.out) (Kd.R_base ho0) hb); have n4_ := Aside0.mk (Kd.R_elder' (by (with_reducible repeat (first | apply rA_ | apply rN_ | apply rW_)); exact HO477.out) (Kd.R_base ho0) hb); have n5_ := Aside0.mk (Kd.R_lower (Kd.R_new' (Kd.R_new' (Kd.R_new' (Kd.R_new' ho0 (Kd.R_lt (by (with_reducible repeat (first | apply rA_ | apply rN_ | apply rW_)); exact HO465.out))) (Kd.R_lt (by (with_reducible repeat (first | apply rA_ | apply rN_ | apply rW_)); exact HO469.out))) (Kd.R_lt (by (with_reducible repeat (first | apply rA_ | apply rN_ | apply rW_)); exact HO473.out))) (Kd.R_lt (by (with_reducible repeat (first | apply rA_ | apply rN_ | apply rW_)); exact HO477.out))) (below_size (by repeat (first | (with_reducible first | exact HB.out | apply bA_ | apply bN_ | apply bW_) | exact HB.out)))); have n6_ := Aside0.mk (below_step (by repeat (first | (with_reducible first | exact HB.out | apply bA_ | apply bN_ | apply bW_) | exact HB.out)) hb); clear HO461; clear HO465; clear HO469; clear HO473; clear HO477; clear HB; have HO461 := n0_; have HO465 := n1_; have HO469 := n2_; have HO473 := n3_; have HO477 := n4_; have HO481 := n5_; have HB := n6_; clear n0_ n1_ n2_ n3_ n4_ n5_ n6_; (try clear hb); (try clear hb2); (try clear hk); (try clear hi); (try clear ho0)) | ((with_reducible refine gate_callee (f := 19) rfl ?_); refine goesL_ (some 67) rfl rfl Try.func19 (by kernel_rfl) rfl #[.int .i64 t458, .slice Ao13 t459.length co13] rfl (by (try simp only [List.map_toArray, List.map_cons, List.map_nil]); first | done | rfl | (simp only [List.length_drop, List.length_take]; rfl)) ?_; (with_reducible refine (spec_FamilyOrder.calls k t458 _ _ t459 t482 t483 _ ?side1 ?side2 A10.out).mono ?_); (case side1 => repeat (first | exact (Kd.R_reads' HO461.out).2.2 | (with_reducible refine cA_ ?_ _) | (with_reducible refine cN_ ?_ _) | (with_reducible refine cW_ ?_))); (case side2 => exact (Kd.R_reads' HO461.out).2.1); rintro e w19 ⟨v484, rfl, ho0, hb⟩; refine ⟨_, rfl, ?_⟩; have n0_ := Aside0.mk (Kd.R_below (by (with_reducible repeat (first | apply rA_ | apply rN_ | apply rW_)); exact HO461.out) hb); have n1_ := Aside0.mk (Kd.R_elder' (by (with_reducible repeat (first | apply rA_ | apply rN_ | apply rW_)); exact HO465.out) (Kd.R_base ho0) hb); have n2_ := Aside0.mk (Kd.R_elder' (by (with_reducible repeat (first | apply rA_ | apply rN_ | apply rW_)); exact HO469.out) (Kd.R_base ho0) hb); have n3_ := Aside0.mk (Kd.R_elder' (by (with_reducible repeat (first | apply rA_ | apply rN_ | apply rW_)); exact HO473.out) (Kd.R_base ho0) hb); have n4_ := Aside0.mk (Kd.R_elder' (by (with_reducible repeat (first | apply rA_ | apply rN_ | apply rW_)); exact HO477.out) (Kd.R_base ho0) hb); have n5_ := Aside0.mk (Kd.R_elder' (by (with_reducible repeat (first | apply rA_ | apply rN_ | apply rW_)); exact HO481.out) (Kd.R_base ho0) hb); have n6_ := Aside0.mk (Kd.R_lower (Kd.R_new' (Kd.R_new' (Kd.R_new' (Kd.R_new' (Kd.R_new' ho0 (Kd.R_lt (by (with_reducible repeat (first | apply rA_ | apply rN_ | apply rW_)); exact HO465.out))) (Kd.R_lt (by (with_reducible repeat (first | apply rA_ | apply rN_ | apply rW_)); exact HO469.out))) (Kd.R_lt (by (with_reducible repeat (first | apply rA_ | apply rN_ | apply rW_)); exact HO473.out))) (Kd.R_lt (by (with_reducible repeat (first | apply rA_ | apply rN_ | apply rW_)); exact HO477.out))) (Kd.R_lt (by (with_reducible repeat (first | apply rA_ | apply rN_ | apply rW_)); exact HO481.out))) (below_size (by repeat (first | (with_reducible first | exact HB.out | apply bA_ | apply bN_ | apply bW_) | exact HB.out)))); have n7_ := Aside0.mk (below_step (by repeat (first | (with_reducible first | exact HB.out | apply bA_ | apply bN_ | apply bW_) | exact HB.out)) hb); clear HO461; clear HO465; clear HO469; clear HO473; clear HO477; clear HO481; clear HB; have HO461 := n0_; have HO465 := n1_; have HO469 := n2_; have HO473 := n3_; have HO477 := n4_; have HO481 := n5_; have HO485 := n6_; have HB := n7_; clear n0_ n1_ n2_ n3_ n4_ n5_ n6_ n7_; (try clear hb); (try clear hb2); (try clear hk); (try clear hi); (try clear ho0)))
  (try simp only [Act.put, lS_, lZ_, lC_])
  go_cut [108] (fun v108 wc => ∃ (kq : Nat) (x108_10 : Bool), v108 = .bool x108_10 ∧ Aside0 (laws_FnBestOrders.j0 kq t458 t459 t462 t463 t470 t478 x108_10 = some r) ∧ Aside0 (kq ≤ k) ∧ Aside0 (Kd.R k56 56 wc w.heap.size (fun _ => True) (.slice Ao13 t459.length co13) t459) ∧ Aside0 (Kd.R (Kd.int .i64) 2 wc w.heap.size (fun k_ => some k_ ≠ (v472 : Value).ownBlock ∧ some k_ ≠ (v480 : Value).ownBlock) v464 t462) ∧ Aside0 (Kd.R (Kd.int .i64) 2 wc w.heap.size (fun k_ => some k_ ≠ (v464 : Value).ownBlock ∧ some k_ ≠ (v480 : Value).ownBlock) v472 t470) ∧ Aside0 (Kd.R (Kd.int .i64) 2 wc w.heap.size (fun k_ => some k_ ≠ (v464 : Value).ownBlock ∧ some k_ ≠ (v472 : Value).ownBlock) v480 t478) ∧ Aside0 (Below w.heap.size w wc))
  case first => as_aux_lemma =>
   have H := HC11.out
   clear HC11
   by_cases c20 : t463 = t467
   ·
    rw [if_pos c20] at H
    have c20b0 : (t463 == t467) = true := beq_iff_eq.mpr c20
    have c20b1 : (t463 != t467) = false := bne_eq_false_iff_eq.mpr c20
    clear c20
    (first | rw [c20b0] | (simp only [i64_w, i32_w]; rw [c20b0]) | skip)
    replace H := Option.bind_eq_some_iff.mp H
    obtain ⟨t486, A210, H⟩ := H
    (try dsimp only at H)
    have A21 := Aside0.mk A210
    clear A210
    by_cases c22 : t486 = true
    ·
     subst c22
     have H1 : (if t471 = t475 then ((laws_likeInts.f k t470 t474).bind fun t487 => (if t487 = true then (if t479 = t483 then ((laws_likeInts.f k t478 t482).bind fun t488 => (if t488 = true then ((impl_IsShop.f k t458 t459).bind fun t489 => (laws_FnBestOrders.j0 k t458 t459 t462 t463 t470 t478 (t489 != (t467 == 0)))) else (laws_FnBestOrders.j0 k t458 t459 t462 t463 t470 t478 true))) else (laws_FnBestOrders.j0 k t458 t459 t462 t463 t470 t478 true)) else (laws_FnBestOrders.j0 k t458 t459 t462 t463 t470 t478 true))) else (laws_FnBestOrders.j0 k t458 t459 t462 t463 t470 t478 true)) = some r := by rw [if_pos rfl] at H; exact H
     clear H
     have H := H1
     clear H1
     by_cases c23 : t471 = t475
     ·
      rw [if_pos c23] at H
      have c23b0 : (t471 == t475) = true := beq_iff_eq.mpr c23
      have c23b1 : (t471 != t475) = false := bne_eq_false_iff_eq.mpr c23
      clear c23
      replace H := Option.bind_eq_some_iff.mp H
      obtain ⟨t487, A240, H⟩ := H
      (try dsimp only at H)
      have A24 := Aside0.mk A240
      clear A240
      by_cases c25 : t487 = true
      ·
       subst c25
       have H1 : (if t479 = t483 then ((laws_likeInts.f k t478 t482).bind fun t488 => (if t488 = true then ((impl_IsShop.f k t458 t459).bind fun t489 => (laws_FnBestOrders.j0 k t458 t459 t462 t463 t470 t478 (t489 != (t467 == 0)))) else (laws_FnBestOrders.j0 k t458 t459 t462 t463 t470 t478 true))) else (laws_FnBestOrders.j0 k t458 t459 t462 t463 t470 t478 true)) = some r := by rw [if_pos rfl] at H; exact H
       clear H
       have H := H1
       clear H1
       by_cases c26 : t479 = t483
       ·
        rw [if_pos c26] at H
        have c26b0 : (t479 == t483) = true := beq_iff_eq.mpr c26
        have c26b1 : (t479 != t483) = false := bne_eq_false_iff_eq.mpr c26
        clear c26
        replace H := Option.bind_eq_some_iff.mp H
        obtain ⟨t488, A270, H⟩ := H
        (try dsimp only at H)
        have A27 := Aside0.mk A270
        clear A270
        by_cases c28 : t488 = true
        ·
         subst c28
         have H1 : ((impl_IsShop.f k t458 t459).bind fun t489 => (laws_FnBestOrders.j0 k t458 t459 t462 t463 t470 t478 (t489 != (t467 == 0)))) = some r := by rw [if_pos rfl] at H; exact H
         clear H
         have H := H1
         clear H1
         replace H := Option.bind_eq_some_iff.mp H
         obtain ⟨t489, A290, H⟩ := H
         (try dsimp only at H)
         have A29 := Aside0.mk A290
         clear A290
         have H' := Aside0.mk H
         clear H
         obtain ⟨Ao30, co30, eo30⟩ := Kd.R_slice HO465.out
         subst eo30
         obtain ⟨Ao31, co31, eo31⟩ := Kd.R_slice HO469.out
         subst eo31
         go_wp2_with (first | (go_at_call 31; (with_reducible refine (laws_likeInts.calls k _ _ t462 _ _ t466 true _ ?side1 ?side2 ?side3 ?side4 A21.out).mono ?_); (case side1 => repeat (first | exact (Kd.R_reads' HO465.out).2.2 | (with_reducible refine cA_ ?_ _) | (with_reducible refine cN_ ?_ _) | (with_reducible refine cW_ ?_))); (case side2 => exact (Kd.R_reads' HO465.out).2.1); (case side3 => repeat (first | exact (Kd.R_reads' HO469.out).2.2 | (with_reducible refine cA_ ?_ _) | (with_reducible refine cN_ ?_ _) | (with_reducible refine cW_ ?_))); (case side4 => exact (Kd.R_reads' HO469.out).2.1); rintro e w' ⟨rfl, ⟨nd, rfl⟩⟩; obtain ⟨Ao32, co32, eo32⟩ := Kd.R_slice HO473.out; subst eo32; obtain ⟨Ao33, co33, eo33⟩ := Kd.R_slice HO477.out; subst eo33) | (go_at_call 31; (with_reducible refine (laws_likeInts.calls k _ _ t470 _ _ t474 true _ ?side1 ?side2 ?side3 ?side4 A24.out).mono ?_); (case side1 => repeat (first | exact (Kd.R_reads' HO473.out).2.2 | (with_reducible refine cA_ ?_ _) | (with_reducible refine cN_ ?_ _) | (with_reducible refine cW_ ?_))); (case side2 => exact (Kd.R_reads' HO473.out).2.1); (case side3 => repeat (first | exact (Kd.R_reads' HO477.out).2.2 | (with_reducible refine cA_ ?_ _) | (with_reducible refine cN_ ?_ _) | (with_reducible refine cW_ ?_))); (case side4 => exact (Kd.R_reads' HO477.out).2.1); rintro e w' ⟨rfl, ⟨nd, rfl⟩⟩; obtain ⟨Ao34, co34, eo34⟩ := Kd.R_slice HO481.out; subst eo34; obtain ⟨Ao35, co35, eo35⟩ := Kd.R_slice HO485.out; subst eo35) | (go_at_call 31; (with_reducible refine (laws_likeInts.calls k _ _ t478 _ _ t482 true _ ?side1 ?side2 ?side3 ?side4 A27.out).mono ?_); (case side1 => repeat (first | exact (Kd.R_reads' HO481.out).2.2 | (with_reducible refine cA_ ?_ _) | (with_reducible refine cN_ ?_ _) | (with_reducible refine cW_ ?_))); (case side2 => exact (Kd.R_reads' HO481.out).2.1); (case side3 => repeat (first | exact (Kd.R_reads' HO485.out).2.2 | (with_reducible refine cA_ ?_ _) | (with_reducible refine cN_ ?_ _) | (with_reducible refine cW_ ?_))); (case side4 => exact (Kd.R_reads' HO485.out).2.1); rintro e w' ⟨rfl, ⟨nd, rfl⟩⟩) | (go_at_call 32; (with_reducible refine (impl_IsShop.calls k t458 _ _ t459 t489 _ ?side1 ?side2 A29.out).mono ?_); (case side1 => repeat (first | exact (Kd.R_reads' HO461.out).2.2 | (with_reducible refine cA_ ?_ _) | (with_reducible refine cN_ ?_ _) | (with_reducible refine cW_ ?_))); (case side2 => exact (Kd.R_reads' HO461.out).2.1); rintro e w36 ⟨rfl, hb⟩; have n0_ := Aside0.mk (Kd.R_below (by (with_reducible repeat (first | apply rA_ | apply rN_ | apply rW_)); exact HO461.out) hb); have n1_ := Aside0.mk (Kd.R_below (by (with_reducible repeat (first | apply rA_ | apply rN_ | apply rW_)); exact HO465.out) hb); have n2_ := Aside0.mk (Kd.R_below (by (with_reducible repeat (first | apply rA_ | apply rN_ | apply rW_)); exact HO469.out) hb); have n3_ := Aside0.mk (Kd.R_below (by (with_reducible repeat (first | apply rA_ | apply rN_ | apply rW_)); exact HO473.out) hb); have n4_ := Aside0.mk (Kd.R_below (by (with_reducible repeat (first | apply rA_ | apply rN_ | apply rW_)); exact HO477.out) hb); have n5_ := Aside0.mk (Kd.R_below (by (with_reducible repeat (first | apply rA_ | apply rN_ | apply rW_)); exact HO481.out) hb); have n6_ := Aside0.mk (Kd.R_below (by (with_reducible repeat (first | apply rA_ | apply rN_ | apply rW_)); exact HO485.out) hb); have n7_ := Aside0.mk (below_step (by repeat (first | (with_reducible first | exact HB.out | apply bA_ | apply bN_ | apply bW_) | exact HB.out)) hb); clear HO461; clear HO465; clear HO469; clear HO473; clear HO477; clear HO481; clear HO485; clear HB; have HO461 := n0_; have HO465 := n1_; have HO469 := n2_; have HO473 := n3_; have HO477 := n4_; have HO481 := n5_; have HO485 := n6_; have HB := n7_; clear n0_ n1_ n2_ n3_ n4_ n5_ n6_ n7_; (try clear hb); (try clear hb2); (try clear hk); (try clear hi)))
         go_meet
         case rel => exact ⟨_, ((t489 != (t467 == 0))), (by first | rfl | (simp; done) | (simp [*]; done)), H', ⟨by first | omega | exact Nat.le_refl _⟩, ⟨by (with_reducible repeat (first | apply rA_ | apply rN_ | apply rW_)); exact HO461.out⟩, ⟨by (with_reducible repeat (first | apply rA_ | apply rN_ | apply rW_)); exact Kd.R_mono HO465.out (fun _ hk => ⟨hk.1.1.1.2, hk.1.2⟩)⟩, ⟨by (with_reducible repeat (first | apply rA_ | apply rN_ | apply rW_)); exact Kd.R_mono HO473.out (fun _ hk => ⟨hk.1.1.1.1.2, hk.1.2⟩)⟩, ⟨by (with_reducible repeat (first | apply rA_ | apply rN_ | apply rW_)); exact Kd.R_mono HO481.out (fun _ hk => ⟨hk.1.1.1.1.2, hk.1.1.2⟩)⟩, ⟨by repeat (first | (with_reducible first | exact HB.out | apply bA_ | apply bN_ | apply bW_) | exact HB.out)⟩⟩
        ·
         replace c28 := Bool.eq_false_iff.mpr c28
         subst c28
         have H1 : (laws_FnBestOrders.j0 k t458 t459 t462 t463 t470 t478 true) = some r := by rw [if_neg (show ¬ (false = true) by decide)] at H; exact H
         clear H
         have H := H1
         clear H1
         exact laws_FnBestOrders.j0_no hT.out H
       ·
        rw [if_neg c26] at H
        have c26b0 : (t479 == t483) = false := beq_eq_false_iff_ne.mpr c26
        have c26b1 : (t479 != t483) = true := bne_iff_ne.mpr c26
        exact laws_FnBestOrders.j0_no hT.out H
      ·
       replace c25 := Bool.eq_false_iff.mpr c25
       subst c25
       have H1 : (laws_FnBestOrders.j0 k t458 t459 t462 t463 t470 t478 true) = some r := by rw [if_neg (show ¬ (false = true) by decide)] at H; exact H
       clear H
       have H := H1
       clear H1
       exact laws_FnBestOrders.j0_no hT.out H
     ·
      rw [if_neg c23] at H
      have c23b0 : (t471 == t475) = false := beq_eq_false_iff_ne.mpr c23
      have c23b1 : (t471 != t475) = true := bne_iff_ne.mpr c23
      exact laws_FnBestOrders.j0_no hT.out H
    ·
     replace c22 := Bool.eq_false_iff.mpr c22
     subst c22
     have H1 : (laws_FnBestOrders.j0 k t458 t459 t462 t463 t470 t478 true) = some r := by rw [if_neg (show ¬ (false = true) by decide)] at H; exact H
     clear H
     have H := H1
     clear H1
     exact laws_FnBestOrders.j0_no hT.out H
   ·
    rw [if_neg c20] at H
    have c20b0 : (t463 == t467) = false := beq_eq_false_iff_ne.mpr c20
    have c20b1 : (t463 != t467) = true := bne_iff_ne.mpr c20
    (first | rw [c20b0] | (simp only [i64_w, i32_w]; rw [c20b0]) | skip)
    exact laws_FnBestOrders.j0_no hT.out H
  case rest => as_aux_lemma =>
   clear HC11
   try clear c3
   obtain ⟨kq, x108_10, rfl, HA, HJ10, HO_4, HO_5, HO_9, HO_13, HB⟩ := hcut
   cases kq with
   | zero => exact absurd HA.out (by simp [laws_FnBestOrders.j0])
   | succ kj10 =>
    have H := HA.out
    clear HA
    simp only [laws_FnBestOrders.j0] at H
    by_cases c55 : x108_10 = true
    ·
     subst c55
     have H1 : (some false) = some r := by rw [if_pos rfl] at H; exact H
     clear H
     have H := H1
     clear H1
     exact absurd ((Option.some.inj H).trans hT.out) (by decide)
    ·
     replace c55 := Bool.eq_false_iff.mpr c55
     subst c55
     have H1 : (if t463 = 0 then (laws_FnBestOrders.j1 kj10 t458 t459 t462 t470 t478 ((t459.length : Int) == 0)) else (laws_FnBestOrders.j1 kj10 t458 t459 t462 t470 t478 true)) = some r := by rw [if_neg (show ¬ (false = true) by decide)] at H; exact H
     clear H
     have H := H1
     clear H1
     have HC56 := Aside0.mk H
     clear H
     go_upto_region 12 with (fail)
     go_cut [115] (fun v115 wc => ∃ (kq : Nat) (x115_55 : Bool), v115 = .bool x115_55 ∧ Aside0 (laws_FnBestOrders.j1 kq t458 t459 t462 t470 t478 x115_55 = some r) ∧ Aside0 (kq ≤ kj10) ∧ Aside0 (Kd.R k56 56 wc w.heap.size (fun _ => True) (.slice Ao13 t459.length co13) t459) ∧ Aside0 (Kd.R (Kd.int .i64) 2 wc w.heap.size (fun k_ => some k_ ≠ (v472 : Value).ownBlock ∧ some k_ ≠ (v480 : Value).ownBlock) v464 t462) ∧ Aside0 (Kd.R (Kd.int .i64) 2 wc w.heap.size (fun k_ => some k_ ≠ (v464 : Value).ownBlock ∧ some k_ ≠ (v480 : Value).ownBlock) v472 t470) ∧ Aside0 (Kd.R (Kd.int .i64) 2 wc w.heap.size (fun k_ => some k_ ≠ (v464 : Value).ownBlock ∧ some k_ ≠ (v472 : Value).ownBlock) v480 t478) ∧ Aside0 (Below w.heap.size w wc))
     case first => as_aux_lemma =>
      have H := HC56.out
      clear HC56
      by_cases c57 : t463 = 0
      ·
       rw [if_pos c57] at H
       have c57b0 : (t463 == 0) = true := beq_iff_eq.mpr c57
       have c57b1 : (t463 != 0) = false := bne_eq_false_iff_eq.mpr c57
       clear c57
       (first | rw [c57b0] | (simp only [i64_w, i32_w]; rw [c57b0]) | skip)
       have H' := Aside0.mk H
       clear H
       go_wp2
       go_meet
       case rel => exact ⟨_, (((t459.length : Int) == 0)), (by first | rfl | (simp; done) | (simp [*]; done)), H', ⟨by have := HJ10.out; first | omega | exact Nat.le_refl _⟩, ⟨by (with_reducible repeat (first | apply rA_ | apply rN_ | apply rW_)); exact HO_4.out⟩, ⟨by (with_reducible repeat (first | apply rA_ | apply rN_ | apply rW_)); exact HO_5.out⟩, ⟨by (with_reducible repeat (first | apply rA_ | apply rN_ | apply rW_)); exact HO_9.out⟩, ⟨by (with_reducible repeat (first | apply rA_ | apply rN_ | apply rW_)); exact HO_13.out⟩, ⟨by repeat (first | (with_reducible first | exact HB.out | apply bA_ | apply bN_ | apply bW_) | exact HB.out)⟩⟩
      ·
       rw [if_neg c57] at H
       have c57b0 : (t463 == 0) = false := beq_eq_false_iff_ne.mpr c57
       have c57b1 : (t463 != 0) = true := bne_iff_ne.mpr c57
       (first | rw [c57b0] | (simp only [i64_w, i32_w]; rw [c57b0]) | skip)
       have H' := Aside0.mk H
       clear H
       go_wp2
       go_meet
       case rel => exact ⟨_, (true), (by first | rfl | (simp; done) | (simp [*]; done)), H', ⟨by have := HJ10.out; first | omega | exact Nat.le_refl _⟩, ⟨by (with_reducible repeat (first | apply rA_ | apply rN_ | apply rW_)); exact HO_4.out⟩, ⟨by (with_reducible repeat (first | apply rA_ | apply rN_ | apply rW_)); exact HO_5.out⟩, ⟨by (with_reducible repeat (first | apply rA_ | apply rN_ | apply rW_)); exact HO_9.out⟩, ⟨by (with_reducible repeat (first | apply rA_ | apply rN_ | apply rW_)); exact HO_13.out⟩, ⟨by repeat (first | (with_reducible first | exact HB.out | apply bA_ | apply bN_ | apply bW_) | exact HB.out)⟩⟩
     case rest => as_aux_lemma =>
      clear HC56
      try clear c3
      try clear c55
      obtain ⟨kq, x115_55, rfl, HA, HJ55, HO_4, HO_5, HO_9, HO_13, HB⟩ := hcut
      cases kq with
      | zero => exact absurd HA.out (by simp [laws_FnBestOrders.j1])
      | succ kj55 =>
       have H := HA.out
       clear HA
       simp only [laws_FnBestOrders.j1] at H
       by_cases c58 : x115_55 = true
       ·
        subst c58
        have H1 : (some true) = some r := by rw [if_pos rfl] at H; exact H
        clear H
        have H := H1
        clear H1
        obtain rfl := Option.some.inj H
        go_wp2
        go_ret
        exact ⟨by first | rfl | (simp [errW_none, errW_some] <;> rfl) | (simp [*, errW_none, errW_some] <;> rfl), by repeat (first | (with_reducible first | exact HB.out | apply bA_ | apply bN_ | apply bW_) | exact HB.out)⟩
       ·
        replace c58 := Bool.eq_false_iff.mpr c58
        subst c58
        have H1 : ((impl_MostLate.f kj55 t458 t459 t462).bind fun bt490 => ((impl_MostLate.f kj55 t458 t459 t470).bind fun bt492 => ((impl_MostLate.f kj55 t458 t459 t478).bind fun bt494 => ((impl_CountSetups.f kj55 t458 t459 t478).bind fun bt496 => (laws_FnBestOrders.l0 kj55 t458 t459 bt490.1 bt490.2 bt492.1 bt492.2 bt494.1 bt494.2 bt496.1 bt496.2 (([] : List Int)) 0))))) = some r := by rw [if_neg (show ¬ (false = true) by decide)] at H; exact H
        clear H
        have H := H1
        clear H1
        replace H := Option.bind_eq_some_iff.mp H
        obtain ⟨⟨t490, t491⟩, A590, H⟩ := H
        (try dsimp only at H)
        have A59 := Aside0.mk A590
        clear A590
        replace H := Option.bind_eq_some_iff.mp H
        obtain ⟨⟨t492, t493⟩, A600, H⟩ := H
        (try dsimp only at H)
        have A60 := Aside0.mk A600
        clear A600
        replace H := Option.bind_eq_some_iff.mp H
        obtain ⟨⟨t494, t495⟩, A610, H⟩ := H
        (try dsimp only at H)
        have A61 := Aside0.mk A610
        clear A610
        replace H := Option.bind_eq_some_iff.mp H
        obtain ⟨⟨t496, t497⟩, A620, H⟩ := H
        (try dsimp only at H)
        have A62 := Aside0.mk A620
        clear A620
        obtain ⟨y498, hy498⟩ : ∃ y_ : List Int, y_ = (([] : List Int)) := ⟨_, rfl⟩
        replace H : (laws_FnBestOrders.l0 kj55 t458 t459 t490 t491 t492 t493 t494 t495 t496 t497 y498 0) = some r := by first | (rw [hy498]; with_reducible exact H) | (have H2_ := (Option.bind_some _ _).symm.trans H; rw [hy498]; with_reducible exact H2_) | (have H2_ := (Option.bind_some _ _).symm.trans H; with_reducible exact H2_) | with_reducible exact H | (rw [hy498]; exact H) | exact H
        have Ny498 := Aside0.mk hy498
        clear hy498
        have H' := Aside0.mk H
        clear H
        obtain ⟨Ao63, co63, eo63⟩ := Kd.R_slice HO_5.out
        subst eo63
        go_wp2_with (first | ((with_reducible refine gate_callee (f := 33) rfl ?_); refine goesL_ (some 120) rfl rfl Try.func33 (by kernel_rfl) rfl #[.int .i64 t458, .slice Ao13 t459.length co13, .slice Ao63 t462.length co63] rfl (by (try simp only [List.map_toArray, List.map_cons, List.map_nil]); first | done | rfl | (simp only [List.length_drop, List.length_take]; rfl)) ?_; (with_reducible refine (impl_MostLate.calls kj55 t458 _ _ t459 _ _ t462 t490 t491 _ ?side1 ?side2 ?side3 ?side4 A59.out).mono ?_); (case side1 => repeat (first | exact (Kd.R_reads' HO_4.out).2.2 | (with_reducible refine cA_ ?_ _) | (with_reducible refine cN_ ?_ _) | (with_reducible refine cW_ ?_))); (case side2 => exact (Kd.R_reads' HO_4.out).2.1); (case side3 => repeat (first | exact (Kd.R_reads' HO_5.out).2.2 | (with_reducible refine cA_ ?_ _) | (with_reducible refine cN_ ?_ _) | (with_reducible refine cW_ ?_))); (case side4 => exact (Kd.R_reads' HO_5.out).2.1); rintro e w64 ⟨rfl, hb⟩; refine ⟨_, rfl, ?_⟩; have n0_ := Aside0.mk (Kd.R_below (by (with_reducible repeat (first | apply rA_ | apply rN_ | apply rW_)); exact HO_4.out) hb); have n1_ := Aside0.mk (Kd.R_below (by (with_reducible repeat (first | apply rA_ | apply rN_ | apply rW_)); exact HO_5.out) hb); have n2_ := Aside0.mk (Kd.R_below (by (with_reducible repeat (first | apply rA_ | apply rN_ | apply rW_)); exact HO_9.out) hb); have n3_ := Aside0.mk (Kd.R_below (by (with_reducible repeat (first | apply rA_ | apply rN_ | apply rW_)); exact HO_13.out) hb); have n4_ := Aside0.mk (below_step (by repeat (first | (with_reducible first | exact HB.out | apply bA_ | apply bN_ | apply bW_) | exact HB.out)) hb); clear HO_4; clear HO_5; clear HO_9; clear HO_13; clear HB; have HO_4 := n0_; have HO_5 := n1_; have HO_9 := n2_; have HO_13 := n3_; have HB := n4_; clear n0_ n1_ n2_ n3_ n4_; (try clear hb); (try clear hb2); (try clear hk); (try clear hi); obtain ⟨Ao65, co65, eo65⟩ := Kd.R_slice HO_9.out; subst eo65) | ((with_reducible refine gate_callee (f := 33) rfl ?_); refine goesL_ (some 127) rfl rfl Try.func33 (by kernel_rfl) rfl #[.int .i64 t458, .slice Ao13 t459.length co13, .slice Ao65 t470.length co65] rfl (by (try simp only [List.map_toArray, List.map_cons, List.map_nil]); first | done | rfl | (simp only [List.length_drop, List.length_take]; rfl)) ?_; (with_reducible refine (impl_MostLate.calls kj55 t458 _ _ t459 _ _ t470 t492 t493 _ ?side1 ?side2 ?side3 ?side4 A60.out).mono ?_); (case side1 => repeat (first | exact (Kd.R_reads' HO_4.out).2.2 | (with_reducible refine cA_ ?_ _) | (with_reducible refine cN_ ?_ _) | (with_reducible refine cW_ ?_))); (case side2 => exact (Kd.R_reads' HO_4.out).2.1); (case side3 => repeat (first | exact (Kd.R_reads' HO_9.out).2.2 | (with_reducible refine cA_ ?_ _) | (with_reducible refine cN_ ?_ _) | (with_reducible refine cW_ ?_))); (case side4 => exact (Kd.R_reads' HO_9.out).2.1); rintro e w66 ⟨rfl, hb⟩; refine ⟨_, rfl, ?_⟩; have n0_ := Aside0.mk (Kd.R_below (by (with_reducible repeat (first | apply rA_ | apply rN_ | apply rW_)); exact HO_4.out) hb); have n1_ := Aside0.mk (Kd.R_below (by (with_reducible repeat (first | apply rA_ | apply rN_ | apply rW_)); exact HO_5.out) hb); have n2_ := Aside0.mk (Kd.R_below (by (with_reducible repeat (first | apply rA_ | apply rN_ | apply rW_)); exact HO_9.out) hb); have n3_ := Aside0.mk (Kd.R_below (by (with_reducible repeat (first | apply rA_ | apply rN_ | apply rW_)); exact HO_13.out) hb); have n4_ := Aside0.mk (below_step (by repeat (first | (with_reducible first | exact HB.out | apply bA_ | apply bN_ | apply bW_) | exact HB.out)) hb); clear HO_4; clear HO_5; clear HO_9; clear HO_13; clear HB; have HO_4 := n0_; have HO_5 := n1_; have HO_9 := n2_; have HO_13 := n3_; have HB := n4_; clear n0_ n1_ n2_ n3_ n4_; (try clear hb); (try clear hb2); (try clear hk); (try clear hi); obtain ⟨Ao67, co67, eo67⟩ := Kd.R_slice HO_13.out; subst eo67) | ((with_reducible refine gate_callee (f := 33) rfl ?_); refine goesL_ (some 134) rfl rfl Try.func33 (by kernel_rfl) rfl #[.int .i64 t458, .slice Ao13 t459.length co13, .slice Ao67 t478.length co67] rfl (by (try simp only [List.map_toArray, List.map_cons, List.map_nil]); first | done | rfl | (simp only [List.length_drop, List.length_take]; rfl)) ?_; (with_reducible refine (impl_MostLate.calls kj55 t458 _ _ t459 _ _ t478 t494 t495 _ ?side1 ?side2 ?side3 ?side4 A61.out).mono ?_); (case side1 => repeat (first | exact (Kd.R_reads' HO_4.out).2.2 | (with_reducible refine cA_ ?_ _) | (with_reducible refine cN_ ?_ _) | (with_reducible refine cW_ ?_))); (case side2 => exact (Kd.R_reads' HO_4.out).2.1); (case side3 => repeat (first | exact (Kd.R_reads' HO_13.out).2.2 | (with_reducible refine cA_ ?_ _) | (with_reducible refine cN_ ?_ _) | (with_reducible refine cW_ ?_))); (case side4 => exact (Kd.R_reads' HO_13.out).2.1); rintro e w68 ⟨rfl, hb⟩; refine ⟨_, rfl, ?_⟩; have n0_ := Aside0.mk (Kd.R_below (by (with_reducible repeat (first | apply rA_ | apply rN_ | apply rW_)); exact HO_4.out) hb); have n1_ := Aside0.mk (Kd.R_below (by (with_reducible repeat (first | apply rA_ | apply rN_ | apply rW_)); exact HO_5.out) hb); have n2_ := Aside0.mk (Kd.R_below (by (with_reducible repeat (first | apply rA_ | apply rN_ | apply rW_)); exact HO_9.out) hb); have n3_ := Aside0.mk (Kd.R_below (by (with_reducible repeat (first | apply rA_ | apply rN_ | apply rW_)); exact HO_13.out) hb); have n4_ := Aside0.mk (below_step (by repeat (first | (with_reducible first | exact HB.out | apply bA_ | apply bN_ | apply bW_) | exact HB.out)) hb); clear HO_4; clear HO_5; clear HO_9; clear HO_13; clear HB; have HO_4 := n0_; have HO_5 := n1_; have HO_9 := n2_; have HO_13 := n3_; have HB := n4_; clear n0_ n1_ n2_ n3_ n4_; (try clear hb); (try clear hb2); (try clear hk); (try clear hi)) | ((with_reducible refine gate_callee (f := 34) rfl ?_); refine goesL_ (some 141) rfl rfl Try.func34 (by kernel_rfl) rfl #[.int .i64 t458, .slice Ao13 t459.length co13, .slice Ao67 t478.length co67] rfl (by (try simp only [List.map_toArray, List.map_cons, List.map_nil]); first | done | rfl | (simp only [List.length_drop, List.length_take]; rfl)) ?_; (with_reducible refine (impl_CountSetups.calls kj55 t458 _ _ t459 _ _ t478 t496 t497 _ ?side1 ?side2 ?side3 ?side4 A62.out).mono ?_); (case side1 => repeat (first | exact (Kd.R_reads' HO_4.out).2.2 | (with_reducible refine cA_ ?_ _) | (with_reducible refine cN_ ?_ _) | (with_reducible refine cW_ ?_))); (case side2 => exact (Kd.R_reads' HO_4.out).2.1); (case side3 => repeat (first | exact (Kd.R_reads' HO_13.out).2.2 | (with_reducible refine cA_ ?_ _) | (with_reducible refine cN_ ?_ _) | (with_reducible refine cW_ ?_))); (case side4 => exact (Kd.R_reads' HO_13.out).2.1); rintro e w69 ⟨rfl, hb⟩; refine ⟨_, rfl, ?_⟩; have n0_ := Aside0.mk (Kd.R_below (by (with_reducible repeat (first | apply rA_ | apply rN_ | apply rW_)); exact HO_4.out) hb); have n1_ := Aside0.mk (Kd.R_below (by (with_reducible repeat (first | apply rA_ | apply rN_ | apply rW_)); exact HO_5.out) hb); have n2_ := Aside0.mk (Kd.R_below (by (with_reducible repeat (first | apply rA_ | apply rN_ | apply rW_)); exact HO_9.out) hb); have n3_ := Aside0.mk (Kd.R_below (by (with_reducible repeat (first | apply rA_ | apply rN_ | apply rW_)); exact HO_13.out) hb); have n4_ := Aside0.mk (below_step (by repeat (first | (with_reducible first | exact HB.out | apply bA_ | apply bN_ | apply bW_) | exact HB.out)) hb); clear HO_4; clear HO_5; clear HO_9; clear HO_13; clear HB; have HO_4 := n0_; have HO_5 := n1_; have HO_9 := n2_; have HO_13 := n3_; have HB := n4_; clear n0_ n1_ n2_ n3_ n4_; (try clear hb); (try clear hb2); (try clear hk); (try clear hi)) | ((with_reducible refine gate_dst (N := 144) rfl ?_); (try (refine gate_guard (by rfl) ?_; dsimp only)); refine Kd.R_lit (Kd.int .i64) _ 2 ?hg (N := 144) ?hd (xs := ([] : List Int)) (inner := []) (ok := fun _ => True) (okp := fun _ => True) ?hr ?hp (fun _ hk => hk) trivial (Below.refl _ _) (Nat.le_refl _) (by simp) ?_; (case hd => rfl); (case hg => rfl); (case hr => first | (go_simp; done) | (go_simp; rfl)); (case hp => exact (Reps.none _ _)); intro v499 w70 ho71 hb hg_ hnew_; clear hg_ hnew_; (first | rw [← Ny498.out] at ho71 | (simp only [Int.reduceToNat] at ho71; rw [← Ny498.out] at ho71)); have n0_ := Aside0.mk (Kd.R_below (by (with_reducible repeat (first | apply rA_ | apply rN_ | apply rW_)); exact HO_4.out) hb); have n1_ := Aside0.mk (Kd.R_elder' (by (with_reducible repeat (first | apply rA_ | apply rN_ | apply rW_)); exact HO_5.out) (Kd.R_base ho71) hb); have n2_ := Aside0.mk (Kd.R_elder' (by (with_reducible repeat (first | apply rA_ | apply rN_ | apply rW_)); exact HO_9.out) (Kd.R_base ho71) hb); have n3_ := Aside0.mk (Kd.R_elder' (by (with_reducible repeat (first | apply rA_ | apply rN_ | apply rW_)); exact HO_13.out) (Kd.R_base ho71) hb); have n4_ := Aside0.mk (Kd.R_lower (Kd.R_new' (Kd.R_new' (Kd.R_new' ho71 (Kd.R_lt (by (with_reducible repeat (first | apply rA_ | apply rN_ | apply rW_)); exact HO_5.out))) (Kd.R_lt (by (with_reducible repeat (first | apply rA_ | apply rN_ | apply rW_)); exact HO_9.out))) (Kd.R_lt (by (with_reducible repeat (first | apply rA_ | apply rN_ | apply rW_)); exact HO_13.out))) (below_size (by repeat (first | (with_reducible first | exact HB.out | apply bA_ | apply bN_ | apply bW_) | exact HB.out)))); have n5_ := Aside0.mk (below_step (by repeat (first | (with_reducible first | exact HB.out | apply bA_ | apply bN_ | apply bW_) | exact HB.out)) hb); clear HO_4; clear HO_5; clear HO_9; clear HO_13; clear HB; have HO_4 := n0_; have HO_5 := n1_; have HO_9 := n2_; have HO_13 := n3_; have HO500 := n4_; have HB := n5_; clear n0_ n1_ n2_ n3_ n4_ n5_; clear hb ho71))
        (try simp only [Act.put, lS_, lZ_, lC_])
        go_loopg [25, 26] kj55 (fun kq v25 v26 w' => ∃ (x25_3 : List Int) (x26_3 : Int), v26 = .int .i64 x26_3 ∧ Aside0 (laws_FnBestOrders.l0 kq t458 t459 t490 t491 t492 t493 t494 t495 t496 t497 x25_3 x26_3 = some r) ∧ Aside0 (kq ≤ kj55) ∧ Aside0 (Kd.R k56 56 w' w.heap.size (fun _ => True) (.slice Ao13 t459.length co13) t459) ∧ Aside0 (Kd.R (Kd.int .i64) 2 w' w.heap.size (fun _ => True) v25 x25_3) ∧ Aside0 (Below w.heap.size w w'))
        case atStart => exact ⟨(y498), (0), (by first | rfl | (simp; done) | (simp [*]; done)), H', ⟨Nat.le_refl _⟩, ⟨by (with_reducible repeat (first | apply rA_ | apply rN_ | apply rW_)); exact HO_4.out⟩, ⟨by (with_reducible repeat (first | apply rA_ | apply rN_ | apply rW_)); exact Kd.R_mono HO500.out (fun _ hk => trivial)⟩, ⟨by repeat (first | (with_reducible first | exact HB.out | apply bA_ | apply bN_ | apply bW_) | exact HB.out)⟩⟩
        case round =>
         clear H'
         try clear c3
         try clear c55
         try clear c58
         obtain ⟨x25_3, x26_3, rfl, HA, HK3, HO_4, HO_25, HB⟩ := hrel
         cases gk with
         | zero => exact absurd HA.out (by simp [laws_FnBestOrders.l0])
         | succ k3 =>
          have H := HA.out
          clear HA
          simp only [laws_FnBestOrders.l0] at H
          by_cases c72 : x26_3 < (t459.length : Int)
          ·
           rw [if_pos c72] at H
           have c72b0 : decide (x26_3 < (t459.length : Int)) = true := decide_eq_true c72
           clear c72
           by_cases c73 : 0 ≤ x26_3
           ·
            rw [if_pos c73] at H
            have c73b0 : decide (0 ≤ x26_3) = true := decide_eq_true c73
            clear c73
            replace H := Option.bind_eq_some_iff.mp H
            obtain ⟨t502, A740, H⟩ := H
            (try dsimp only at H)
            have A74 := Aside0.mk A740
            clear A740
            by_cases c75 : t502 = true
            ·
             subst c75
             have H1 : (laws_FnBestOrders.l0 k3 t458 t459 t490 t491 t492 t493 t494 t495 t496 t497 x25_3 (wrap64 (x26_3 + 1))) = some r := by rw [if_pos rfl] at H; exact H
             clear H
             have H := H1
             clear H1
             have H' := Aside0.mk H
             clear H
             have p501 : 0 ≤ (x26_3 : Int) := of_decide_eq_true (by first | (with_reducible assumption) | assumption)
             have q501 : x26_3 < (t459.length : Int) := of_decide_eq_true (by first | (with_reducible assumption) | assumption)
             obtain ⟨ad501, e501, hx501_0, hx501_1, hx501_2⟩ := at_T56 (Kd.R_reads' HO_4.out).2.2 x26_3 p501 q501
             cases e501
             replace p501 := eq_true p501
             replace q501 := eq_true q501
             obtain ⟨Ao76, co76, eo76⟩ := Kd.R_slice HO_25.out
             subst eo76
             go_wp2_with (first | ((with_reducible refine gate_callee (f := 35) rfl ?_); refine goesL_ (some 157) rfl rfl Try.func35 (by kernel_rfl) rfl #[.slice Ao76 x25_3.length co76, .int .i64 ((rd_T56 t459 x26_3).f0)] rfl (by (try simp only [List.map_toArray, List.map_cons, List.map_nil]); first | done | rfl | (simp only [List.length_drop, List.length_take]; rfl)) ?_; (with_reducible refine (laws_hasInt.calls k3 _ _ x25_3 ((rd_T56 t459 x26_3).f0) true _ ?side1 ?side2 A74.out).mono ?_); (case side1 => repeat (first | exact (Kd.R_reads' HO_25.out).2.2 | (with_reducible refine cA_ ?_ _) | (with_reducible refine cN_ ?_ _) | (with_reducible refine cW_ ?_))); (case side2 => exact (Kd.R_reads' HO_25.out).2.1); rintro e w' ⟨rfl, ⟨nd, rfl⟩⟩; refine ⟨_, rfl, ?_⟩))
             go_roundg k3
             case measure => have := HJ10.out; have := HJ55.out; have := HK3.out; omega
             case rel => exact ⟨(x25_3), (wrap64 (x26_3 + 1)), (by first | rfl | (simp; done) | (simp [*]; done)), H', ⟨by have := HJ10.out; have := HJ55.out; have := HK3.out; omega⟩, ⟨by (with_reducible repeat (first | apply rA_ | apply rN_ | apply rW_)); exact HO_4.out⟩, ⟨by (with_reducible repeat (first | apply rA_ | apply rN_ | apply rW_)); exact HO_25.out⟩, ⟨by repeat (first | (with_reducible first | exact HB.out | apply bA_ | apply bN_ | apply bW_) | exact HB.out)⟩⟩
            ·
             replace c75 := Bool.eq_false_iff.mpr c75
             subst c75
             have H1 : (if x25_3.length < 17592186044416 then (laws_FnBestOrders.l0 k3 t458 t459 t490 t491 t492 t493 t494 t495 t496 t497 (x25_3 ++ [(rd_T56 t459 x26_3).f0]) (wrap64 (x26_3 + 1))) else (none)) = some r := by rw [if_neg (show ¬ (false = true) by decide)] at H; exact H
             clear H
             have H := H1
             clear H1
             by_cases c77 : x25_3.length < 17592186044416
             ·
              rw [if_pos c77] at H
              have LMc77 := Aside0.mk c77
              clear c77
              obtain ⟨y504, hy504⟩ : ∃ y_ : List Int, y_ = (x25_3 ++ [(rd_T56 t459 x26_3).f0]) := ⟨_, rfl⟩
              replace H : (laws_FnBestOrders.l0 k3 t458 t459 t490 t491 t492 t493 t494 t495 t496 t497 y504 (wrap64 (x26_3 + 1))) = some r := by first | (rw [hy504]; with_reducible exact H) | (have H2_ := (Option.bind_some _ _).symm.trans H; rw [hy504]; with_reducible exact H2_) | (have H2_ := (Option.bind_some _ _).symm.trans H; with_reducible exact H2_) | with_reducible exact H | (rw [hy504]; exact H) | exact H
              have Ny504 := Aside0.mk hy504
              clear hy504
              have H' := Aside0.mk H
              clear H
              have p501 : 0 ≤ (x26_3 : Int) := of_decide_eq_true (by first | (with_reducible assumption) | assumption)
              have q501 : x26_3 < (t459.length : Int) := of_decide_eq_true (by first | (with_reducible assumption) | assumption)
              obtain ⟨ad501, e501, hx501_0, hx501_1, hx501_2⟩ := at_T56 (Kd.R_reads' HO_4.out).2.2 x26_3 p501 q501
              cases e501
              replace p501 := eq_true p501
              replace q501 := eq_true q501
              obtain ⟨Ao78, co78, eo78⟩ := Kd.R_slice HO_25.out
              subst eo78
              go_wp2_with (first | ((with_reducible refine gate_callee (f := 35) rfl ?_); refine goesL_ (some 157) rfl rfl Try.func35 (by kernel_rfl) rfl #[.slice Ao78 x25_3.length co78, .int .i64 ((rd_T56 t459 x26_3).f0)] rfl (by (try simp only [List.map_toArray, List.map_cons, List.map_nil]); first | done | rfl | (simp only [List.length_drop, List.length_take]; rfl)) ?_; (with_reducible refine (laws_hasInt.calls k3 _ _ x25_3 ((rd_T56 t459 x26_3).f0) false _ ?side1 ?side2 A74.out).mono ?_); (case side1 => repeat (first | exact (Kd.R_reads' HO_25.out).2.2 | (with_reducible refine cA_ ?_ _) | (with_reducible refine cN_ ?_ _) | (with_reducible refine cW_ ?_))); (case side2 => exact (Kd.R_reads' HO_25.out).2.1); rintro e w' ⟨rfl, ⟨nd, rfl⟩⟩; refine ⟨_, rfl, ?_⟩; have p503 : 0 ≤ (x26_3 : Int) := of_decide_eq_true (by first | (with_reducible assumption) | assumption); have q503 : x26_3 < (t459.length : Int) := of_decide_eq_true (by first | (with_reducible assumption) | assumption); obtain ⟨ad503, e503, hx503_0, hx503_1, hx503_2⟩ := at_T56 (Kd.R_reads' HO_4.out).2.2 x26_3 p503 q503; obtain rfl : ad501 = ad503 := (by injection e503); replace p503 := eq_true p503; replace q503 := eq_true q503) | ((with_reducible refine gate_builtin (b := .append) (xs := #[.tmp 159, .tmp 165]) rfl ?_); (try (refine gate_guard (by rfl) ?_; dsimp only)); at_builtin; refine Kd.R_append (Kd.int .i64) (w0 := w) w.heap.size rfl (.tmp 159) (.tmp 165) 23 2 (.int .i64 0) 8 rfl Try.underlying23 info2 rfl (by decide) (by omega) (.slice Ao78 x25_3.length co78) x25_3 ((rd_T56 t459 x26_3).f0) [.int .i64 ((rd_T56 t459 x26_3).f0)] (fun _ => True) (fun _ => False) rfl rfl ?aP (fun _ hk => hk.elim) ?aF ?aO ?aB ?aS ?aL ?_; (case aP => exact rfl); (case aB => exact (by repeat (first | (with_reducible first | exact HB.out | apply bA_ | apply bN_ | apply bW_) | exact HB.out))); (case aF => exact (fun _ _ => trivial)); (case aO => exact (by (with_reducible repeat (first | apply rA_ | apply rN_ | apply rW_)); exact HO_25.out)); (case aS => exact (below_size (by repeat (first | (with_reducible first | exact HB.out | apply bA_ | apply bN_ | apply bW_) | exact HB.out)))); (case aL => have := LMc77.out; omega); intro v505 w79 ho hb hg hat; rw [← Ny504.out] at ho; have n0_ := Aside0.mk (Kd.R_over' (by (with_reducible repeat (first | apply rA_ | apply rN_ | apply rW_)); exact HO_4.out) (Kd.R_typed (by (with_reducible repeat (first | apply rA_ | apply rN_ | apply rW_)); exact HO_25.out)) (by decide) hg); have n1_ := Aside0.mk (hb); have n2_ := Aside0.mk (ho); clear HO_4; clear HB; clear HO_25; have HO_4 := n0_; have HB := n1_; have HO506 := n2_; clear n0_ n1_ n2_; clear ho hb hg hat))
              go_roundg k3
              case measure => have := HJ10.out; have := HJ55.out; have := HK3.out; omega
              case rel => exact ⟨(y504), (wrap64 (x26_3 + 1)), (by first | rfl | (simp; done) | (simp [*]; done)), H', ⟨by have := HJ10.out; have := HJ55.out; have := HK3.out; omega⟩, ⟨by (with_reducible repeat (first | apply rA_ | apply rN_ | apply rW_)); exact HO_4.out⟩, ⟨by (with_reducible repeat (first | apply rA_ | apply rN_ | apply rW_)); exact HO506.out⟩, ⟨by repeat (first | (with_reducible first | exact HB.out | apply bA_ | apply bN_ | apply bW_) | exact HB.out)⟩⟩
             ·
              rw [if_neg c77] at H
              exact absurd H (by simp)
           ·
            rw [if_neg c73] at H
            exact absurd H (by simp)
          ·
           rw [if_neg c72] at H
           have c72b0 : decide (x26_3 < (t459.length : Int)) = false := decide_eq_false c72
           clear c72
           by_cases c80 : t491 = 0
           ·
            rw [if_pos c80] at H
            have c80b0 : (t491 == 0) = true := beq_iff_eq.mpr c80
            have c80b1 : (t491 != 0) = false := bne_eq_false_iff_eq.mpr c80
            clear c80
            by_cases c81 : t493 = 0
            ·
             rw [if_pos c81] at H
             have c81b0 : (t493 == 0) = true := beq_iff_eq.mpr c81
             have c81b1 : (t493 != 0) = false := bne_eq_false_iff_eq.mpr c81
             clear c81
             by_cases c82 : t495 = 0
             ·
              rw [if_pos c82] at H
              have c82b0 : (t495 == 0) = true := beq_iff_eq.mpr c82
              have c82b1 : (t495 != 0) = false := bne_eq_false_iff_eq.mpr c82
              clear c82
              by_cases c83 : t490 ≤ t492
              ·
               rw [if_pos c83] at H
               have c83b0 : decide (t490 ≤ t492) = true := decide_eq_true c83
               clear c83
               by_cases c84 : t490 ≤ t494
               ·
                rw [if_pos c84] at H
                have c84b0 : decide (t490 ≤ t494) = true := decide_eq_true c84
                clear c84
                by_cases c85 : t458 > 0
                ·
                 rw [if_pos c85] at H
                 have c85b0 : decide (0 < t458) = true := decide_eq_true c85
                 clear c85
                 by_cases c86 : t497 = 0
                 ·
                  rw [if_pos c86] at H
                  have c86b0 : (t497 == 0) = true := beq_iff_eq.mpr c86
                  have c86b1 : (t497 != 0) = false := bne_eq_false_iff_eq.mpr c86
                  clear c86
                  obtain rfl := Option.some.inj H
                  obtain ⟨Ao87, co87, eo87⟩ := Kd.R_slice HO_25.out
                  subst eo87
                  go_wp2
                  go_ret
                  exact ⟨by first | rfl | (simp [errW_none, errW_some] <;> rfl) | (simp [*, errW_none, errW_some] <;> rfl), by repeat (first | (with_reducible first | exact HB.out | apply bA_ | apply bN_ | apply bW_) | exact HB.out)⟩
                 ·
                  rw [if_neg c86] at H
                  have c86b0 : (t497 == 0) = false := beq_eq_false_iff_ne.mpr c86
                  have c86b1 : (t497 != 0) = true := bne_iff_ne.mpr c86
                  exact absurd ((Option.some.inj H).trans hT.out) (by decide)
                ·
                 rw [if_neg c85] at H
                 have c85b0 : decide (0 < t458) = false := decide_eq_false c85
                 clear c85
                 by_cases c88 : t490 = t492
                 ·
                  rw [if_pos c88] at H
                  have c88b0 : (t490 == t492) = true := beq_iff_eq.mpr c88
                  have c88b1 : (t490 != t492) = false := bne_eq_false_iff_eq.mpr c88
                  clear c88
                  by_cases c89 : t497 = 0
                  ·
                   rw [if_pos c89] at H
                   have c89b0 : (t497 == 0) = true := beq_iff_eq.mpr c89
                   have c89b1 : (t497 != 0) = false := bne_eq_false_iff_eq.mpr c89
                   clear c89
                   obtain rfl := Option.some.inj H
                   obtain ⟨Ao90, co90, eo90⟩ := Kd.R_slice HO_25.out
                   subst eo90
                   go_wp2
                   go_ret
                   exact ⟨by first | rfl | (simp [errW_none, errW_some] <;> rfl) | (simp [*, errW_none, errW_some] <;> rfl), by repeat (first | (with_reducible first | exact HB.out | apply bA_ | apply bN_ | apply bW_) | exact HB.out)⟩
                  ·
                   rw [if_neg c89] at H
                   have c89b0 : (t497 == 0) = false := beq_eq_false_iff_ne.mpr c89
                   have c89b1 : (t497 != 0) = true := bne_iff_ne.mpr c89
                   exact absurd ((Option.some.inj H).trans hT.out) (by decide)
                 ·
                  rw [if_neg c88] at H
                  have c88b0 : (t490 == t492) = false := beq_eq_false_iff_ne.mpr c88
                  have c88b1 : (t490 != t492) = true := bne_iff_ne.mpr c88
                  exact absurd ((Option.some.inj H).trans hT.out) (by decide)
               ·
                rw [if_neg c84] at H
                have c84b0 : decide (t490 ≤ t494) = false := decide_eq_false c84
                clear c84
                exact absurd ((Option.some.inj H).trans hT.out) (by decide)
              ·
               rw [if_neg c83] at H
               have c83b0 : decide (t490 ≤ t492) = false := decide_eq_false c83
               clear c83
               exact absurd ((Option.some.inj H).trans hT.out) (by decide)
             ·
              rw [if_neg c82] at H
              have c82b0 : (t495 == 0) = false := beq_eq_false_iff_ne.mpr c82
              have c82b1 : (t495 != 0) = true := bne_iff_ne.mpr c82
              exact absurd ((Option.some.inj H).trans hT.out) (by decide)
            ·
             rw [if_neg c81] at H
             have c81b0 : (t493 == 0) = false := beq_eq_false_iff_ne.mpr c81
             have c81b1 : (t493 != 0) = true := bne_iff_ne.mpr c81
             exact absurd ((Option.some.inj H).trans hT.out) (by decide)
           ·
            rw [if_neg c80] at H
            have c80b0 : (t491 == 0) = false := beq_eq_false_iff_ne.mpr c80
            have c80b1 : (t491 != 0) = true := bne_iff_ne.mpr c80
            exact absurd ((Option.some.inj H).trans hT.out) (by decide)

/-- The one pure statement of laws_FnBestOrders. -/
def laws_FnBestOrders.Pure : Prop := ∀ (l0 : List Int), l0.length * 1 ≤ 140737488351232 → (∀ x ∈ l0, (Lit.int .u8 x).wf = true) → ∃ k, laws_FnBestOrders.f k l0 = some true
theorem laws_FnBestOrders.walk (P : laws_FnBestOrders.Pure) (A0 : Option Addr) (c0 : Nat) (l0 : List Int) (w : World) (w0_0 : l0.length * 1 ≤ 140737488351232) (w0_1 : (∀ x ∈ l0, (Lit.int .u8 x).wf = true)) (hr0 : Kd.C (Kd.int .u8) w A0 l0.length l0) (hc0 : l0.length ≤ c0) :
  Calls Try.prog 5 #[.slice A0 l0.length c0] w fun e w' => e = .returned (.bool true) ∧ Below w.heap.size w w' := by
 obtain ⟨k, h⟩ := P l0 w0_0 w0_1
 refine (laws_FnBestOrders.calls k A0 c0 l0 true w ⟨rfl⟩ hr0 hc0 h).mono ?_
 rintro e w' ⟨rfl, hd⟩
 exact ⟨rfl, hd⟩

end Go.Proofs.Ytcieonfpmchdkaa.PFnBestOrders
