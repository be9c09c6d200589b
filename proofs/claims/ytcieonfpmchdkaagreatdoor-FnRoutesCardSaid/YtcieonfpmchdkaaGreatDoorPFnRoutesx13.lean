-- Printed by the session (wip/myprint.py).
import Derived.Test.YtcieonfpmchdkaaGreatDoorPFnRoutesx0
import Derived.Test.YtcieonfpmchdkaaGreatDoorPFnRoutesx2
import Derived.Test.YtcieonfpmchdkaaGreatDoorPFnRoutesx3
import Derived.Test.YtcieonfpmchdkaaGreatDoorPFnRoutesx4
import Derived.Test.YtcieonfpmchdkaaGreatDoorPFnRoutesx5
import Derived.Test.YtcieonfpmchdkaaGreatDoorPFnRoutesx6
import Derived.Test.YtcieonfpmchdkaaGreatDoorPFnRoutesx7
import Derived.Test.YtcieonfpmchdkaaGreatDoorPFnRoutesx9
import Derived.Test.YtcieonfpmchdkaaGreatDoorPFnRoutesx10
import Derived.Test.YtcieonfpmchdkaaGreatDoorPFnRoutesx12
namespace Go.Proofs.YtcieonfpmchdkaaGreatDoor.PFnRoutes
open Go.RowKit Go.Proofs.YtcieonfpmchdkaaGreatDoorW.PrintWords Go.Proofs.YtcieonfpmchdkaaGreatDoorW.PrintLast Go.Proofs.YtcieonfpmchdkaaGreatDoorW.PrintMore
attribute [local go_sem] max2_int min2_int max_two min_two max_three min_three max_four min_four   -- for this text's walks alone
set_option linter.unusedVariables false
set_option linter.unusedSimpArgs false

/-! ### laws_FnRoutes: function 3 -/
mutual
def laws_FnRoutes.j0 : Nat → List (S37) → Int → Int → Int → Int → Bool → Option (Bool)
 | 0, _, _, _, _, _, _ => none
 | k + 1, x3, x4, x5, x6, x9, x141 => if x141 = true then (some false) else (if x6 = 0 then (if 0 ≤ x5 then (if x5 < (x3.length : Int) then ((impl_StepTime.f ((rd_T37 x3 x5).f0) ((rd_T37 x3 x5).f1) ((rd_T37 x3 x5).f2) x4).bind fun bt439 => (laws_FnRoutes.l0 k x3 x4 x9 bt439.1 bt439.2 0 0)) else (none)) else (none)) else (some true))
def laws_FnRoutes.l0 : Nat → List (S37) → Int → Int → Int → Int → Int → Int → Option (Bool)
 | 0, _, _, _, _, _, _, _ => none
 | k + 1, x3, x4, x9, x21, x22, x23, x24 => if x24 < (x3.length : Int) then (if 0 ≤ x24 then ((impl_StepTime.f ((rd_T37 x3 x24).f0) ((rd_T37 x3 x24).f1) ((rd_T37 x3 x24).f2) x4).bind fun bt442 => (if bt442.2 = 0 then (if bt442.1 > x21 then (some false) else (laws_FnRoutes.l0 k x3 x4 x9 x21 x22 (wrap64 (x23 + bt442.1)) (wrap64 (x24 + 1)))) else (some false))) else (none)) else (if x22 = 0 then (some (x23 == x9)) else (some false))
end
def laws_FnRoutes.f (k : Nat) (l0 : List Int) : Option (Bool) := (laws_big.f l0).bind fun t401 => (if t401 = true then (some true) else ((spec_DrawSlowestStep.f k l0).bind fun bt402 => ((impl_SlowestStep.f k bt402.1 bt402.2).bind fun bt406 => ((spec_SlowestStep.f k bt402.1 bt402.2).bind fun bt408 => ((impl_RouteTime.f k bt402.1 bt402.2).bind fun bt410 => ((spec_RouteTime.f k bt402.1 bt402.2).bind fun bt412 => ((impl_RouteText.f k bt402.1).bind fun t414 => ((impl_ReadRoute.f k t414).bind fun bt415 => ((spec_DrawReadRoute.f k l0).bind fun t419 => ((impl_ReadRoute.f k t419).bind fun bt420 => ((spec_ReadRoute.f k t419).bind fun bt424 => (if bt406.2 = bt408.2 then (if bt406.1 = bt408.1 then (if bt410.2 = bt412.2 then (if bt410.1 = bt412.1 then ((spec_RouteText.f k bt402.1).bind fun t428 => (if t414.toList = t428.toList then (if (bt415.2 != (t414.toList != ([] : List UInt8))) = true then (laws_FnRoutes.j0 k bt402.1 bt402.2 bt406.1 bt406.2 bt410.1 true) else (if bt415.2 = true then ((laws_likeSteps9.f k bt415.1 bt402.1).bind fun t429 => (if t429 = true then (if (bt420.2 != bt424.2) = true then (laws_FnRoutes.j0 k bt402.1 bt402.2 bt406.1 bt406.2 bt410.1 true) else ((laws_likeSteps9.f k bt420.1 bt424.1).bind fun t430 => (if t430 = true then (if bt420.2 = true then ((impl_RouteText.f k bt420.1).bind fun t431 => (if t431.toList = t419.toList then ((impl_IsRoute.f k bt402.1).bind fun t432 => (laws_FnRoutes.j0 k bt402.1 bt402.2 bt406.1 bt406.2 bt410.1 (t432 != bt415.2))) else (laws_FnRoutes.j0 k bt402.1 bt402.2 bt406.1 bt406.2 bt410.1 true))) else ((impl_IsRoute.f k bt402.1).bind fun t433 => (laws_FnRoutes.j0 k bt402.1 bt402.2 bt406.1 bt406.2 bt410.1 (t433 != bt415.2)))) else (laws_FnRoutes.j0 k bt402.1 bt402.2 bt406.1 bt406.2 bt410.1 true)))) else (laws_FnRoutes.j0 k bt402.1 bt402.2 bt406.1 bt406.2 bt410.1 true))) else (if (bt420.2 != bt424.2) = true then (laws_FnRoutes.j0 k bt402.1 bt402.2 bt406.1 bt406.2 bt410.1 true) else ((laws_likeSteps9.f k bt420.1 bt424.1).bind fun t434 => (if t434 = true then (if bt420.2 = true then ((impl_RouteText.f k bt420.1).bind fun t435 => (if t435.toList = t419.toList then ((impl_IsRoute.f k bt402.1).bind fun t436 => (laws_FnRoutes.j0 k bt402.1 bt402.2 bt406.1 bt406.2 bt410.1 (t436 != bt415.2))) else (laws_FnRoutes.j0 k bt402.1 bt402.2 bt406.1 bt406.2 bt410.1 true))) else ((impl_IsRoute.f k bt402.1).bind fun t437 => (laws_FnRoutes.j0 k bt402.1 bt402.2 bt406.1 bt406.2 bt410.1 (t437 != bt415.2)))) else (laws_FnRoutes.j0 k bt402.1 bt402.2 bt406.1 bt406.2 bt410.1 true)))))) else (laws_FnRoutes.j0 k bt402.1 bt402.2 bt406.1 bt406.2 bt410.1 true))) else (laws_FnRoutes.j0 k bt402.1 bt402.2 bt406.1 bt406.2 bt410.1 true)) else (laws_FnRoutes.j0 k bt402.1 bt402.2 bt406.1 bt406.2 bt410.1 true)) else (laws_FnRoutes.j0 k bt402.1 bt402.2 bt406.1 bt406.2 bt410.1 true)) else (laws_FnRoutes.j0 k bt402.1 bt402.2 bt406.1 bt406.2 bt410.1 true)))))))))))))
theorem laws_FnRoutes.mono_l : ∀ k, (∀ y0 y1 y2 y3 y4 y5, LeO (laws_FnRoutes.j0 k y0 y1 y2 y3 y4 y5) (laws_FnRoutes.j0 (k + 1) y0 y1 y2 y3 y4 y5)) ∧ (∀ y0 y1 y2 y3 y4 y5 y6, LeO (laws_FnRoutes.l0 k y0 y1 y2 y3 y4 y5 y6) (laws_FnRoutes.l0 (k + 1) y0 y1 y2 y3 y4 y5 y6))
 | 0 => ⟨fun _ _ _ _ _ _ r h => by simp [laws_FnRoutes.j0] at h, fun _ _ _ _ _ _ _ r h => by simp [laws_FnRoutes.l0] at h⟩
 | k + 1 => by
  obtain ⟨ih0, ih1⟩ := laws_FnRoutes.mono_l k
  refine ⟨?_, ?_⟩
  ·
   intro y0 y1 y2 y3 y4 y5
   unfold laws_FnRoutes.j0
   repeat' first
   | (with_reducible exact ih0 _ _ _ _ _ _)
   | (with_reducible exact ih1 _ _ _ _ _ _ _)
   | (with_reducible exact impl_IsRoute.mono _ _)
   | (with_reducible exact impl_ReadRoute.mono _ _)
   | (with_reducible exact impl_RouteText.mono _ _)
   | (with_reducible exact impl_RouteTime.mono _ _ _)
   | (with_reducible exact impl_SlowestStep.mono _ _ _)
   | (with_reducible exact laws_likeSteps9.mono _ _ _)
   | (with_reducible exact spec_DrawReadRoute.mono _ _)
   | (with_reducible exact spec_DrawSlowestStep.mono _ _)
   | (with_reducible exact spec_ReadRoute.mono _ _)
   | (with_reducible exact spec_RouteText.mono _ _)
   | (with_reducible exact spec_RouteTime.mono _ _ _)
   | (with_reducible exact spec_SlowestStep.mono _ _ _)
   | (with_reducible exact LeO.refl _)
   | (with_reducible exact LeO.none _)
   | (with_reducible refine LeO.ite ?_ ?_)
   | (with_reducible refine LeO.bind ?_ (fun _ => ?_))
   | exact ih0 _ _ _ _ _ _
   | exact ih1 _ _ _ _ _ _ _
   | exact impl_IsRoute.mono _ _
   | exact impl_ReadRoute.mono _ _
   | exact impl_RouteText.mono _ _
   | exact impl_RouteTime.mono _ _ _
   | exact impl_SlowestStep.mono _ _ _
   | exact laws_likeSteps9.mono _ _ _
   | exact spec_DrawReadRoute.mono _ _
   | exact spec_DrawSlowestStep.mono _ _
   | exact spec_ReadRoute.mono _ _
   | exact spec_RouteText.mono _ _
   | exact spec_RouteTime.mono _ _ _
   | exact spec_SlowestStep.mono _ _ _
   | exact LeO.none _
   | refine LeO.ite ?_ ?_
   | refine LeO.bind ?_ (fun _ => ?_)
  ·
   intro y0 y1 y2 y3 y4 y5 y6
   unfold laws_FnRoutes.l0
   repeat' first
   | (with_reducible exact ih0 _ _ _ _ _ _)
   | (with_reducible exact ih1 _ _ _ _ _ _ _)
   | (with_reducible exact impl_IsRoute.mono _ _)
   | (with_reducible exact impl_ReadRoute.mono _ _)
   | (with_reducible exact impl_RouteText.mono _ _)
   | (with_reducible exact impl_RouteTime.mono _ _ _)
   | (with_reducible exact impl_SlowestStep.mono _ _ _)
   | (with_reducible exact laws_likeSteps9.mono _ _ _)
   | (with_reducible exact spec_DrawReadRoute.mono _ _)
   | (with_reducible exact spec_DrawSlowestStep.mono _ _)
   | (with_reducible exact spec_ReadRoute.mono _ _)
   | (with_reducible exact spec_RouteText.mono _ _)
   | (with_reducible exact spec_RouteTime.mono _ _ _)
   | (with_reducible exact spec_SlowestStep.mono _ _ _)
   | (with_reducible exact LeO.refl _)
   | (with_reducible exact LeO.none _)
   | (with_reducible refine LeO.ite ?_ ?_)
   | (with_reducible refine LeO.bind ?_ (fun _ => ?_))
   | exact ih0 _ _ _ _ _ _
   | exact ih1 _ _ _ _ _ _ _
   | exact impl_IsRoute.mono _ _
   | exact impl_ReadRoute.mono _ _
   | exact impl_RouteText.mono _ _
   | exact impl_RouteTime.mono _ _ _
   | exact impl_SlowestStep.mono _ _ _
   | exact laws_likeSteps9.mono _ _ _
   | exact spec_DrawReadRoute.mono _ _
   | exact spec_DrawSlowestStep.mono _ _
   | exact spec_ReadRoute.mono _ _
   | exact spec_RouteText.mono _ _
   | exact spec_RouteTime.mono _ _ _
   | exact spec_SlowestStep.mono _ _ _
   | exact LeO.none _
   | refine LeO.ite ?_ ?_
   | refine LeO.bind ?_ (fun _ => ?_)
theorem laws_FnRoutes.mono : ∀ a0 k, LeO (laws_FnRoutes.f k a0) (laws_FnRoutes.f (k + 1) a0) := by
 intro a0 k
 obtain ⟨ih0, ih1⟩ := laws_FnRoutes.mono_l k
 unfold laws_FnRoutes.f
 repeat' first
   | (with_reducible exact ih0 _ _ _ _ _ _)
   | (with_reducible exact ih1 _ _ _ _ _ _ _)
   | (with_reducible exact impl_IsRoute.mono _ _)
   | (with_reducible exact impl_ReadRoute.mono _ _)
   | (with_reducible exact impl_RouteText.mono _ _)
   | (with_reducible exact impl_RouteTime.mono _ _ _)
   | (with_reducible exact impl_SlowestStep.mono _ _ _)
   | (with_reducible exact laws_likeSteps9.mono _ _ _)
   | (with_reducible exact spec_DrawReadRoute.mono _ _)
   | (with_reducible exact spec_DrawSlowestStep.mono _ _)
   | (with_reducible exact spec_ReadRoute.mono _ _)
   | (with_reducible exact spec_RouteText.mono _ _)
   | (with_reducible exact spec_RouteTime.mono _ _ _)
   | (with_reducible exact spec_SlowestStep.mono _ _ _)
   | (with_reducible exact LeO.refl _)
   | (with_reducible exact LeO.none _)
   | (with_reducible refine LeO.ite ?_ ?_)
   | (with_reducible refine LeO.bind ?_ (fun _ => ?_))
   | exact ih0 _ _ _ _ _ _
   | exact ih1 _ _ _ _ _ _ _
   | exact impl_IsRoute.mono _ _
   | exact impl_ReadRoute.mono _ _
   | exact impl_RouteText.mono _ _
   | exact impl_RouteTime.mono _ _ _
   | exact impl_SlowestStep.mono _ _ _
   | exact laws_likeSteps9.mono _ _ _
   | exact spec_DrawReadRoute.mono _ _
   | exact spec_DrawSlowestStep.mono _ _
   | exact spec_ReadRoute.mono _ _
   | exact spec_RouteText.mono _ _
   | exact spec_RouteTime.mono _ _ _
   | exact spec_SlowestStep.mono _ _ _
   | exact LeO.none _
   | refine LeO.ite ?_ ?_
   | refine LeO.bind ?_ (fun _ => ?_)
theorem laws_FnRoutes.j0_no {r : Bool} (hT : r = true) {k : Nat} {y0} {y1} {y2} {y3} {y4} {P : Prop} (h : laws_FnRoutes.j0 k y0 y1 y2 y3 y4 true = some r) : P := by
 cases k with
 | zero => rw [laws_FnRoutes.j0] at h; cases h
 | succ k => rw [laws_FnRoutes.j0, if_pos rfl] at h; exact absurd ((Option.some.inj h).trans hT) (by decide)
set_option maxHeartbeats 8000000 in
set_option maxRecDepth 100000 in
theorem laws_FnRoutes.calls (k : Nat) (A0 : Option Addr) (c0 : Nat) (l0 : List Int) (r : Bool) (w : World) (hT : Aside0 (r = true)) (hr0 : Kd.C (Kd.int .u8) w A0 l0.length l0) (hc0 : l0.length ≤ c0) (htb : TabW w) (h : laws_FnRoutes.f k l0 = some r) :
  Calls Tryz.prog 3 #[.slice A0 l0.length c0] w fun e w' => e = .returned (.bool r) ∧ Below w.heap.size w w' := by
 have HTB := Aside0.mk htb
 clear htb
 have hu37 := Tryz.underlying37
 have HR0 := Aside0.mk hr0
 have HC0 := Aside0.mk hc0
 clear hr0 hc0
 have HB := Aside0.mk (Below.refl w.heap.size w)
 have H : ((laws_big.f l0).bind fun t401 => (if t401 = true then (some true) else ((spec_DrawSlowestStep.f k l0).bind fun bt402 => ((impl_SlowestStep.f k bt402.1 bt402.2).bind fun bt406 => ((spec_SlowestStep.f k bt402.1 bt402.2).bind fun bt408 => ((impl_RouteTime.f k bt402.1 bt402.2).bind fun bt410 => ((spec_RouteTime.f k bt402.1 bt402.2).bind fun bt412 => ((impl_RouteText.f k bt402.1).bind fun t414 => ((impl_ReadRoute.f k t414).bind fun bt415 => ((spec_DrawReadRoute.f k l0).bind fun t419 => ((impl_ReadRoute.f k t419).bind fun bt420 => ((spec_ReadRoute.f k t419).bind fun bt424 => (if bt406.2 = bt408.2 then (if bt406.1 = bt408.1 then (if bt410.2 = bt412.2 then (if bt410.1 = bt412.1 then ((spec_RouteText.f k bt402.1).bind fun t428 => (if t414.toList = t428.toList then (if (bt415.2 != (t414.toList != ([] : List UInt8))) = true then (laws_FnRoutes.j0 k bt402.1 bt402.2 bt406.1 bt406.2 bt410.1 true) else (if bt415.2 = true then ((laws_likeSteps9.f k bt415.1 bt402.1).bind fun t429 => (if t429 = true then (if (bt420.2 != bt424.2) = true then (laws_FnRoutes.j0 k bt402.1 bt402.2 bt406.1 bt406.2 bt410.1 true) else ((laws_likeSteps9.f k bt420.1 bt424.1).bind fun t430 => (if t430 = true then (if bt420.2 = true then ((impl_RouteText.f k bt420.1).bind fun t431 => (if t431.toList = t419.toList then ((impl_IsRoute.f k bt402.1).bind fun t432 => (laws_FnRoutes.j0 k bt402.1 bt402.2 bt406.1 bt406.2 bt410.1 (t432 != bt415.2))) else (laws_FnRoutes.j0 k bt402.1 bt402.2 bt406.1 bt406.2 bt410.1 true))) else ((impl_IsRoute.f k bt402.1).bind fun t433 => (laws_FnRoutes.j0 k bt402.1 bt402.2 bt406.1 bt406.2 bt410.1 (t433 != bt415.2)))) else (laws_FnRoutes.j0 k bt402.1 bt402.2 bt406.1 bt406.2 bt410.1 true)))) else (laws_FnRoutes.j0 k bt402.1 bt402.2 bt406.1 bt406.2 bt410.1 true))) else (if (bt420.2 != bt424.2) = true then (laws_FnRoutes.j0 k bt402.1 bt402.2 bt406.1 bt406.2 bt410.1 true) else ((laws_likeSteps9.f k bt420.1 bt424.1).bind fun t434 => (if t434 = true then (if bt420.2 = true then ((impl_RouteText.f k bt420.1).bind fun t435 => (if t435.toList = t419.toList then ((impl_IsRoute.f k bt402.1).bind fun t436 => (laws_FnRoutes.j0 k bt402.1 bt402.2 bt406.1 bt406.2 bt410.1 (t436 != bt415.2))) else (laws_FnRoutes.j0 k bt402.1 bt402.2 bt406.1 bt406.2 bt410.1 true))) else ((impl_IsRoute.f k bt402.1).bind fun t437 => (laws_FnRoutes.j0 k bt402.1 bt402.2 bt406.1 bt406.2 bt410.1 (t437 != bt415.2)))) else (laws_FnRoutes.j0 k bt402.1 bt402.2 bt406.1 bt406.2 bt410.1 true)))))) else (laws_FnRoutes.j0 k bt402.1 bt402.2 bt406.1 bt406.2 bt410.1 true))) else (laws_FnRoutes.j0 k bt402.1 bt402.2 bt406.1 bt406.2 bt410.1 true)) else (laws_FnRoutes.j0 k bt402.1 bt402.2 bt406.1 bt406.2 bt410.1 true)) else (laws_FnRoutes.j0 k bt402.1 bt402.2 bt406.1 bt406.2 bt410.1 true)) else (laws_FnRoutes.j0 k bt402.1 bt402.2 bt406.1 bt406.2 bt410.1 true)))))))))))))) = some r := h
 clear h
 replace H := Option.bind_eq_some_iff.mp H
 obtain ⟨t401, A20, H⟩ := H
 (try dsimp only at H)
 have A2 := Aside0.mk A20
 clear A20
 by_cases c3 : t401 = true
 ·
  subst c3
  have H1 : (some true) = some r := by rw [if_pos rfl] at H; exact H
  clear H
  have H := H1
  clear H1
  obtain rfl := Option.some.inj H
  go_enter Tryz.func3, Tryz.ntmps3
  go_wp2_with (first | ((with_reducible refine gate_callee (f := 4) rfl ?_); refine goesL_ (some 28) rfl rfl Tryz.func4 (by kernel_rfl) rfl #[.slice A0 l0.length c0] rfl (by (try simp only [List.map_toArray, List.map_cons, List.map_nil]); first | done | rfl | (simp only [List.length_drop, List.length_take]; rfl)) ?_; (with_reducible refine (laws_big.calls _ _ l0 true _ ?side1 ?side2 A2.out).mono ?_); (case side1 => repeat (first | exact HR0.out | (with_reducible refine Kd.C_alloc ?_ _) | (with_reducible refine Kd.C_drewN ?_ _) | (with_reducible refine Kd.C_drew ?_))); (case side2 => exact HC0.out); rintro e w' ⟨rfl, ⟨nd, rfl⟩⟩; refine ⟨_, rfl, ?_⟩))
  go_ret
  exact ⟨by first | rfl | (simp [errW_none, errW_some] <;> rfl) | (simp [*, errW_none, errW_some] <;> rfl), by repeat (first | (with_reducible first | exact HB.out | apply below_alloc | apply pw_below_drewN | apply below_drew1) | exact HB.out)⟩
 ·
  replace c3 := Bool.eq_false_iff.mpr c3
  subst c3
  have H1 : ((spec_DrawSlowestStep.f k l0).bind fun bt402 => ((impl_SlowestStep.f k bt402.1 bt402.2).bind fun bt406 => ((spec_SlowestStep.f k bt402.1 bt402.2).bind fun bt408 => ((impl_RouteTime.f k bt402.1 bt402.2).bind fun bt410 => ((spec_RouteTime.f k bt402.1 bt402.2).bind fun bt412 => ((impl_RouteText.f k bt402.1).bind fun t414 => ((impl_ReadRoute.f k t414).bind fun bt415 => ((spec_DrawReadRoute.f k l0).bind fun t419 => ((impl_ReadRoute.f k t419).bind fun bt420 => ((spec_ReadRoute.f k t419).bind fun bt424 => (if bt406.2 = bt408.2 then (if bt406.1 = bt408.1 then (if bt410.2 = bt412.2 then (if bt410.1 = bt412.1 then ((spec_RouteText.f k bt402.1).bind fun t428 => (if t414.toList = t428.toList then (if (bt415.2 != (t414.toList != ([] : List UInt8))) = true then (laws_FnRoutes.j0 k bt402.1 bt402.2 bt406.1 bt406.2 bt410.1 true) else (if bt415.2 = true then ((laws_likeSteps9.f k bt415.1 bt402.1).bind fun t429 => (if t429 = true then (if (bt420.2 != bt424.2) = true then (laws_FnRoutes.j0 k bt402.1 bt402.2 bt406.1 bt406.2 bt410.1 true) else ((laws_likeSteps9.f k bt420.1 bt424.1).bind fun t430 => (if t430 = true then (if bt420.2 = true then ((impl_RouteText.f k bt420.1).bind fun t431 => (if t431.toList = t419.toList then ((impl_IsRoute.f k bt402.1).bind fun t432 => (laws_FnRoutes.j0 k bt402.1 bt402.2 bt406.1 bt406.2 bt410.1 (t432 != bt415.2))) else (laws_FnRoutes.j0 k bt402.1 bt402.2 bt406.1 bt406.2 bt410.1 true))) else ((impl_IsRoute.f k bt402.1).bind fun t433 => (laws_FnRoutes.j0 k bt402.1 bt402.2 bt406.1 bt406.2 bt410.1 (t433 != bt415.2)))) else (laws_FnRoutes.j0 k bt402.1 bt402.2 bt406.1 bt406.2 bt410.1 true)))) else (laws_FnRoutes.j0 k bt402.1 bt402.2 bt406.1 bt406.2 bt410.1 true))) else (if (bt420.2 != bt424.2) = true then (laws_FnRoutes.j0 k bt402.1 bt402.2 bt406.1 bt406.2 bt410.1 true) else ((laws_likeSteps9.f k bt420.1 bt424.1).bind fun t434 => (if t434 = true then (if bt420.2 = true then ((impl_RouteText.f k bt420.1).bind fun t435 => (if t435.toList = t419.toList then ((impl_IsRoute.f k bt402.1).bind fun t436 => (laws_FnRoutes.j0 k bt402.1 bt402.2 bt406.1 bt406.2 bt410.1 (t436 != bt415.2))) else (laws_FnRoutes.j0 k bt402.1 bt402.2 bt406.1 bt406.2 bt410.1 true))) else ((impl_IsRoute.f k bt402.1).bind fun t437 => (laws_FnRoutes.j0 k bt402.1 bt402.2 bt406.1 bt406.2 bt410.1 (t437 != bt415.2)))) else (laws_FnRoutes.j0 k bt402.1 bt402.2 bt406.1 bt406.2 bt410.1 true)))))) else (laws_FnRoutes.j0 k bt402.1 bt402.2 bt406.1 bt406.2 bt410.1 true))) else (laws_FnRoutes.j0 k bt402.1 bt402.2 bt406.1 bt406.2 bt410.1 true)) else (laws_FnRoutes.j0 k bt402.1 bt402.2 bt406.1 bt406.2 bt410.1 true)) else (laws_FnRoutes.j0 k bt402.1 bt402.2 bt406.1 bt406.2 bt410.1 true)) else (laws_FnRoutes.j0 k bt402.1 bt402.2 bt406.1 bt406.2 bt410.1 true)))))))))))) = some r := by rw [if_neg (show ¬ (false = true) by decide)] at H; exact H
  clear H
  have H := H1
  clear H1
  replace H := Option.bind_eq_some_iff.mp H
  obtain ⟨⟨t402, t403⟩, A40, H⟩ := H
  (try dsimp only at H)
  have A4 := Aside0.mk A40
  clear A40
  replace H := Option.bind_eq_some_iff.mp H
  obtain ⟨⟨t406, t407⟩, A50, H⟩ := H
  (try dsimp only at H)
  have A5 := Aside0.mk A50
  clear A50
  replace H := Option.bind_eq_some_iff.mp H
  obtain ⟨⟨t408, t409⟩, A60, H⟩ := H
  (try dsimp only at H)
  have A6 := Aside0.mk A60
  clear A60
  replace H := Option.bind_eq_some_iff.mp H
  obtain ⟨⟨t410, t411⟩, A70, H⟩ := H
  (try dsimp only at H)
  have A7 := Aside0.mk A70
  clear A70
  replace H := Option.bind_eq_some_iff.mp H
  obtain ⟨⟨t412, t413⟩, A80, H⟩ := H
  (try dsimp only at H)
  have A8 := Aside0.mk A80
  clear A80
  replace H := Option.bind_eq_some_iff.mp H
  obtain ⟨t414, A90, H⟩ := H
  (try dsimp only at H)
  have A9 := Aside0.mk A90
  clear A90
  replace H := Option.bind_eq_some_iff.mp H
  obtain ⟨⟨t415, t416⟩, A100, H⟩ := H
  (try dsimp only at H)
  have A10 := Aside0.mk A100
  clear A100
  replace H := Option.bind_eq_some_iff.mp H
  obtain ⟨t419, A110, H⟩ := H
  (try dsimp only at H)
  have A11 := Aside0.mk A110
  clear A110
  replace H := Option.bind_eq_some_iff.mp H
  obtain ⟨⟨t420, t421⟩, A120, H⟩ := H
  (try dsimp only at H)
  have A12 := Aside0.mk A120
  clear A120
  replace H := Option.bind_eq_some_iff.mp H
  obtain ⟨⟨t424, t425⟩, A130, H⟩ := H
  (try dsimp only at H)
  have A13 := Aside0.mk A130
  clear A130
  have HC14 := Aside0.mk H
  clear H
  go_enter Tryz.func3, Tryz.ntmps3
  go_upto_region 13 with (first | ((with_reducible refine gate_callee (f := 4) rfl ?_); refine goesL_ (some 28) rfl rfl Tryz.func4 (by kernel_rfl) rfl #[.slice A0 l0.length c0] rfl (by (try simp only [List.map_toArray, List.map_cons, List.map_nil]); first | done | rfl | (simp only [List.length_drop, List.length_take]; rfl)) ?_; (with_reducible refine (laws_big.calls _ _ l0 false _ ?side1 ?side2 A2.out).mono ?_); (case side1 => repeat (first | exact HR0.out | (with_reducible refine Kd.C_alloc ?_ _) | (with_reducible refine Kd.C_drewN ?_ _) | (with_reducible refine Kd.C_drew ?_))); (case side2 => exact HC0.out); rintro e w' ⟨rfl, ⟨nd, rfl⟩⟩; refine ⟨_, rfl, ?_⟩) | ((with_reducible refine gate_callee (f := 5) rfl ?_); refine goesL_ (some 31) rfl rfl Tryz.func5 (by kernel_rfl) rfl #[.slice A0 l0.length c0] rfl (by (try simp only [List.map_toArray, List.map_cons, List.map_nil]); first | done | rfl | (simp only [List.length_drop, List.length_take]; rfl)) ?_; (with_reducible refine (spec_DrawSlowestStep.calls k _ _ l0 t402 t403 _ ?side1 ?side2 A4.out).mono ?_); (case side1 => repeat (first | exact HR0.out | (with_reducible refine Kd.C_alloc ?_ _) | (with_reducible refine Kd.C_drewN ?_ _) | (with_reducible refine Kd.C_drew ?_))); (case side2 => exact HC0.out); rintro e w15 ⟨v404, rfl, ho0, hb⟩; refine ⟨_, rfl, ?_⟩; have n0_ := Aside0.mk (Kd.R_lower ho0 (below_size (by repeat (first | (with_reducible first | exact HB.out | apply below_alloc | apply pw_below_drewN | apply below_drew1) | exact HB.out)))); have n1_ := Aside0.mk (below_step (by repeat (first | (with_reducible first | exact HB.out | apply below_alloc | apply pw_below_drewN | apply below_drew1) | exact HB.out)) hb); clear HB; have HO405 := n0_; have HB := n1_; clear n0_ n1_; (try clear hb); (try clear hb2); (try clear hk); (try clear hi); (try clear ho0); obtain ⟨Ao16, co16, eo16⟩ := Kd.R_slice HO405.out; subst eo16) | ((with_reducible refine gate_callee (f := 6) rfl ?_); refine goesL_ (some 37) rfl rfl Tryz.func6 (by kernel_rfl) rfl #[.slice Ao16 t402.length co16, .int .i64 t403] rfl (by (try simp only [List.map_toArray, List.map_cons, List.map_nil]); first | done | rfl | (simp only [List.length_drop, List.length_take]; rfl)) ?_; (with_reducible refine (impl_SlowestStep.calls k _ _ t402 t403 t406 t407 _ ?side1 ?side2 A5.out).mono ?_); (case side1 => repeat (first | exact (Kd.R_reads' HO405.out).2.2 | (with_reducible refine Kd.C_alloc ?_ _) | (with_reducible refine Kd.C_drewN ?_ _) | (with_reducible refine Kd.C_drew ?_))); (case side2 => exact (Kd.R_reads' HO405.out).2.1); rintro e w17 ⟨rfl, hb⟩; refine ⟨_, rfl, ?_⟩; have n0_ := Aside0.mk (Kd.R_below (by (with_reducible repeat (first | apply Kd.R_alloc | apply Kd.R_drewN | apply Kd.R_drew)); exact HO405.out) hb); have n1_ := Aside0.mk (below_step (by repeat (first | (with_reducible first | exact HB.out | apply below_alloc | apply pw_below_drewN | apply below_drew1) | exact HB.out)) hb); clear HO405; clear HB; have HO405 := n0_; have HB := n1_; clear n0_ n1_; (try clear hb); (try clear hb2); (try clear hk); (try clear hi)) | ((with_reducible refine gate_callee (f := 7) rfl ?_); refine goesL_ (some 43) rfl rfl Tryz.func7 (by kernel_rfl) rfl #[.slice Ao16 t402.length co16, .int .i64 t403] rfl (by (try simp only [List.map_toArray, List.map_cons, List.map_nil]); first | done | rfl | (simp only [List.length_drop, List.length_take]; rfl)) ?_; (with_reducible refine (spec_SlowestStep.calls k _ _ t402 t403 t408 t409 _ ?side1 ?side2 A6.out).mono ?_); (case side1 => repeat (first | exact (Kd.R_reads' HO405.out).2.2 | (with_reducible refine Kd.C_alloc ?_ _) | (with_reducible refine Kd.C_drewN ?_ _) | (with_reducible refine Kd.C_drew ?_))); (case side2 => exact (Kd.R_reads' HO405.out).2.1); rintro e w18 ⟨rfl, hb⟩; refine ⟨_, rfl, ?_⟩; have n0_ := Aside0.mk (Kd.R_below (by (with_reducible repeat (first | apply Kd.R_alloc | apply Kd.R_drewN | apply Kd.R_drew)); exact HO405.out) hb); have n1_ := Aside0.mk (below_step (by repeat (first | (with_reducible first | exact HB.out | apply below_alloc | apply pw_below_drewN | apply below_drew1) | exact HB.out)) hb); clear HO405; clear HB; have HO405 := n0_; have HB := n1_; clear n0_ n1_; (try clear hb); (try clear hb2); (try clear hk); (try clear hi)) | ((with_reducible refine gate_callee (f := 8) rfl ?_); refine goesL_ (some 49) rfl rfl Tryz.func8 (by kernel_rfl) rfl #[.slice Ao16 t402.length co16, .int .i64 t403] rfl (by (try simp only [List.map_toArray, List.map_cons, List.map_nil]); first | done | rfl | (simp only [List.length_drop, List.length_take]; rfl)) ?_; (with_reducible refine (impl_RouteTime.calls k _ _ t402 t403 t410 t411 _ ?side1 ?side2 A7.out).mono ?_); (case side1 => repeat (first | exact (Kd.R_reads' HO405.out).2.2 | (with_reducible refine Kd.C_alloc ?_ _) | (with_reducible refine Kd.C_drewN ?_ _) | (with_reducible refine Kd.C_drew ?_))); (case side2 => exact (Kd.R_reads' HO405.out).2.1); rintro e w19 ⟨rfl, hb⟩; refine ⟨_, rfl, ?_⟩; have n0_ := Aside0.mk (Kd.R_below (by (with_reducible repeat (first | apply Kd.R_alloc | apply Kd.R_drewN | apply Kd.R_drew)); exact HO405.out) hb); have n1_ := Aside0.mk (below_step (by repeat (first | (with_reducible first | exact HB.out | apply below_alloc | apply pw_below_drewN | apply below_drew1) | exact HB.out)) hb); clear HO405; clear HB; have HO405 := n0_; have HB := n1_; clear n0_ n1_; (try clear hb); (try clear hb2); (try clear hk); (try clear hi)) | ((with_reducible refine gate_callee (f := 9) rfl ?_); refine goesL_ (some 55) rfl rfl Tryz.func9 (by kernel_rfl) rfl #[.slice Ao16 t402.length co16, .int .i64 t403] rfl (by (try simp only [List.map_toArray, List.map_cons, List.map_nil]); first | done | rfl | (simp only [List.length_drop, List.length_take]; rfl)) ?_; (with_reducible refine (spec_RouteTime.calls k _ _ t402 t403 t412 t413 _ ?side1 ?side2 A8.out).mono ?_); (case side1 => repeat (first | exact (Kd.R_reads' HO405.out).2.2 | (with_reducible refine Kd.C_alloc ?_ _) | (with_reducible refine Kd.C_drewN ?_ _) | (with_reducible refine Kd.C_drew ?_))); (case side2 => exact (Kd.R_reads' HO405.out).2.1); rintro e w20 ⟨rfl, hb⟩; refine ⟨_, rfl, ?_⟩; have n0_ := Aside0.mk (Kd.R_below (by (with_reducible repeat (first | apply Kd.R_alloc | apply Kd.R_drewN | apply Kd.R_drew)); exact HO405.out) hb); have n1_ := Aside0.mk (below_step (by repeat (first | (with_reducible first | exact HB.out | apply below_alloc | apply pw_below_drewN | apply below_drew1) | exact HB.out)) hb); clear HO405; clear HB; have HO405 := n0_; have HB := n1_; clear n0_ n1_; (try clear hb); (try clear hb2); (try clear hk); (try clear hi)) | ((with_reducible refine gate_callee (f := 10) rfl ?_); refine goesL_ (some 59) rfl rfl Tryz.func10 (by kernel_rfl) rfl #[.slice Ao16 t402.length co16] rfl (by (try simp only [List.map_toArray, List.map_cons, List.map_nil]); first | done | rfl | (simp only [List.length_drop, List.length_take]; rfl)) ?_; (with_reducible refine (impl_RouteText.calls (htb := ?sidetb) k _ _ t402 t414 _ ?side1 ?side2 A9.out).mono ?_); (case sidetb => exact tabW_on HTB.out (by repeat (first | (with_reducible first | exact HB.out | apply below_alloc | apply pw_below_drewN | apply below_drew1) | exact HB.out))); (case side1 => repeat (first | exact (Kd.R_reads' HO405.out).2.2 | (with_reducible refine Kd.C_alloc ?_ _) | (with_reducible refine Kd.C_drewN ?_ _) | (with_reducible refine Kd.C_drew ?_))); (case side2 => exact (Kd.R_reads' HO405.out).2.1); rintro e w21 ⟨rfl, hb⟩; refine ⟨_, rfl, ?_⟩; have n0_ := Aside0.mk (Kd.R_below (by (with_reducible repeat (first | apply Kd.R_alloc | apply Kd.R_drewN | apply Kd.R_drew)); exact HO405.out) hb); have n1_ := Aside0.mk (below_step (by repeat (first | (with_reducible first | exact HB.out | apply below_alloc | apply pw_below_drewN | apply below_drew1) | exact HB.out)) hb); clear HO405; clear HB; have HO405 := n0_; have HB := n1_; clear n0_ n1_; (try clear hb); (try clear hb2); (try clear hk); (try clear hi)) | ((with_reducible refine gate_callee (f := 11) rfl ?_); refine goesL_ (some 62) rfl rfl Tryz.func11 (by kernel_rfl) rfl #[.string t414] rfl (by (try simp only [List.map_toArray, List.map_cons, List.map_nil]); first | done | rfl | (simp only [List.length_drop, List.length_take]; rfl)) ?_; (with_reducible refine (impl_ReadRoute.calls (htb := ?sidetb) k t414 t415 t416 _ A10.out).mono ?_); (case sidetb => exact tabW_on HTB.out (by repeat (first | (with_reducible first | exact HB.out | apply below_alloc | apply pw_below_drewN | apply below_drew1) | exact HB.out))); rintro e w22 ⟨v417, rfl, ho0, hb⟩; refine ⟨_, rfl, ?_⟩; have n0_ := Aside0.mk (Kd.R_elder' (by (with_reducible repeat (first | apply Kd.R_alloc | apply Kd.R_drewN | apply Kd.R_drew)); exact HO405.out) (Kd.R_base ho0) hb); have n1_ := Aside0.mk (Kd.R_lower (Kd.R_new' ho0 (Kd.R_lt (by (with_reducible repeat (first | apply Kd.R_alloc | apply Kd.R_drewN | apply Kd.R_drew)); exact HO405.out))) (below_size (by repeat (first | (with_reducible first | exact HB.out | apply below_alloc | apply pw_below_drewN | apply below_drew1) | exact HB.out)))); have n2_ := Aside0.mk (below_step (by repeat (first | (with_reducible first | exact HB.out | apply below_alloc | apply pw_below_drewN | apply below_drew1) | exact HB.out)) hb); clear HO405; clear HB; have HO405 := n0_; have HO418 := n1_; have HB := n2_; clear n0_ n1_ n2_; (try clear hb); (try clear hb2); (try clear hk); (try clear hi); (try clear ho0)) | ((with_reducible refine gate_callee (f := 12) rfl ?_); refine goesL_ (some 66) rfl rfl Tryz.func12 (by kernel_rfl) rfl #[.slice A0 l0.length c0] rfl (by (try simp only [List.map_toArray, List.map_cons, List.map_nil]); first | done | rfl | (simp only [List.length_drop, List.length_take]; rfl)) ?_; (with_reducible refine (spec_DrawReadRoute.calls k _ _ l0 t419 _ ?side1 ?side2 A11.out).mono ?_); (case side1 => repeat (first | exact (Kd.C_below HR0.out HB.out) | (with_reducible refine Kd.C_alloc ?_ _) | (with_reducible refine Kd.C_drewN ?_ _) | (with_reducible refine Kd.C_drew ?_))); (case side2 => exact HC0.out); rintro e w23 ⟨rfl, hb⟩; refine ⟨_, rfl, ?_⟩; have n0_ := Aside0.mk (Kd.R_below (by (with_reducible repeat (first | apply Kd.R_alloc | apply Kd.R_drewN | apply Kd.R_drew)); exact HO405.out) hb); have n1_ := Aside0.mk (Kd.R_below (by (with_reducible repeat (first | apply Kd.R_alloc | apply Kd.R_drewN | apply Kd.R_drew)); exact HO418.out) hb); have n2_ := Aside0.mk (below_step (by repeat (first | (with_reducible first | exact HB.out | apply below_alloc | apply pw_below_drewN | apply below_drew1) | exact HB.out)) hb); clear HO405; clear HO418; clear HB; have HO405 := n0_; have HO418 := n1_; have HB := n2_; clear n0_ n1_ n2_; (try clear hb); (try clear hb2); (try clear hk); (try clear hi)) | ((with_reducible refine gate_callee (f := 11) rfl ?_); refine goesL_ (some 69) rfl rfl Tryz.func11 (by kernel_rfl) rfl #[.string t419] rfl (by (try simp only [List.map_toArray, List.map_cons, List.map_nil]); first | done | rfl | (simp only [List.length_drop, List.length_take]; rfl)) ?_; (with_reducible refine (impl_ReadRoute.calls (htb := ?sidetb) k t419 t420 t421 _ A12.out).mono ?_); (case sidetb => exact tabW_on HTB.out (by repeat (first | (with_reducible first | exact HB.out | apply below_alloc | apply pw_below_drewN | apply below_drew1) | exact HB.out))); rintro e w24 ⟨v422, rfl, ho0, hb⟩; refine ⟨_, rfl, ?_⟩; have n0_ := Aside0.mk (Kd.R_elder' (by (with_reducible repeat (first | apply Kd.R_alloc | apply Kd.R_drewN | apply Kd.R_drew)); exact HO405.out) (Kd.R_base ho0) hb); have n1_ := Aside0.mk (Kd.R_elder' (by (with_reducible repeat (first | apply Kd.R_alloc | apply Kd.R_drewN | apply Kd.R_drew)); exact HO418.out) (Kd.R_base ho0) hb); have n2_ := Aside0.mk (Kd.R_lower (Kd.R_new' (Kd.R_new' ho0 (Kd.R_lt (by (with_reducible repeat (first | apply Kd.R_alloc | apply Kd.R_drewN | apply Kd.R_drew)); exact HO405.out))) (Kd.R_lt (by (with_reducible repeat (first | apply Kd.R_alloc | apply Kd.R_drewN | apply Kd.R_drew)); exact HO418.out))) (below_size (by repeat (first | (with_reducible first | exact HB.out | apply below_alloc | apply pw_below_drewN | apply below_drew1) | exact HB.out)))); have n3_ := Aside0.mk (below_step (by repeat (first | (with_reducible first | exact HB.out | apply below_alloc | apply pw_below_drewN | apply below_drew1) | exact HB.out)) hb); clear HO405; clear HO418; clear HB; have HO405 := n0_; have HO418 := n1_; have HO423 := n2_; have HB := n3_; clear n0_ n1_ n2_ n3_; (try clear hb); (try clear hb2); (try clear hk); (try clear hi); (try clear ho0)) | ((with_reducible refine gate_callee (f := 13) rfl ?_); refine goesL_ (some 74) rfl rfl Tryz.func13 (by kernel_rfl) rfl #[.string t419] rfl (by (try simp only [List.map_toArray, List.map_cons, List.map_nil]); first | done | rfl | (simp only [List.length_drop, List.length_take]; rfl)) ?_; (with_reducible refine (spec_ReadRoute.calls k t419 t424 t425 _ A13.out).mono ?_); rintro e w25 ⟨v426, rfl, ho0, hb⟩; refine ⟨_, rfl, ?_⟩; have n0_ := Aside0.mk (Kd.R_elder' (by (with_reducible repeat (first | apply Kd.R_alloc | apply Kd.R_drewN | apply Kd.R_drew)); exact HO405.out) (Kd.R_base ho0) hb); have n1_ := Aside0.mk (Kd.R_elder' (by (with_reducible repeat (first | apply Kd.R_alloc | apply Kd.R_drewN | apply Kd.R_drew)); exact HO418.out) (Kd.R_base ho0) hb); have n2_ := Aside0.mk (Kd.R_elder' (by (with_reducible repeat (first | apply Kd.R_alloc | apply Kd.R_drewN | apply Kd.R_drew)); exact HO423.out) (Kd.R_base ho0) hb); have n3_ := Aside0.mk (Kd.R_lower (Kd.R_new' (Kd.R_new' (Kd.R_new' ho0 (Kd.R_lt (by (with_reducible repeat (first | apply Kd.R_alloc | apply Kd.R_drewN | apply Kd.R_drew)); exact HO405.out))) (Kd.R_lt (by (with_reducible repeat (first | apply Kd.R_alloc | apply Kd.R_drewN | apply Kd.R_drew)); exact HO418.out))) (Kd.R_lt (by (with_reducible repeat (first | apply Kd.R_alloc | apply Kd.R_drewN | apply Kd.R_drew)); exact HO423.out))) (below_size (by repeat (first | (with_reducible first | exact HB.out | apply below_alloc | apply pw_below_drewN | apply below_drew1) | exact HB.out)))); have n4_ := Aside0.mk (below_step (by repeat (first | (with_reducible first | exact HB.out | apply below_alloc | apply pw_below_drewN | apply below_drew1) | exact HB.out)) hb); clear HO405; clear HO418; clear HO423; clear HB; have HO405 := n0_; have HO418 := n1_; have HO423 := n2_; have HO427 := n3_; have HB := n4_; clear n0_ n1_ n2_ n3_ n4_; (try clear hb); (try clear hb2); (try clear hk); (try clear hi); (try clear ho0)))
  (try simp only [Act.put, List.setIfInBounds_toArray, List.set_cons_zero, List.set_cons_succ])
  go_cut [141] (fun v141 wc => ∃ (kq : Nat) (x141_13 : Bool), v141 = .bool x141_13 ∧ Aside0 (laws_FnRoutes.j0 kq t402 t403 t406 t407 t410 x141_13 = some r) ∧ Aside0 (kq ≤ k) ∧ Aside0 (Kd.R k37 37 wc w.heap.size (fun _ => True) (.slice Ao16 t402.length co16) t402) ∧ Aside0 (Below w.heap.size w wc))
  case first => as_aux_lemma =>
   have H := HC14.out
   clear HC14
   by_cases c26 : t407 = t409
   ·
    rw [if_pos c26] at H
    have c26b0 : (t407 == t409) = true := beq_iff_eq.mpr c26
    have c26b1 : (t407 != t409) = false := bne_eq_false_iff_eq.mpr c26
    clear c26
    (first | rw [c26b0] | (simp only [i64_w, i32_w]; rw [c26b0]) | skip)
    by_cases c27 : t406 = t408
    ·
     rw [if_pos c27] at H
     have c27b0 : (t406 == t408) = true := beq_iff_eq.mpr c27
     have c27b1 : (t406 != t408) = false := bne_eq_false_iff_eq.mpr c27
     clear c27
     by_cases c28 : t411 = t413
     ·
      rw [if_pos c28] at H
      have c28b0 : (t411 == t413) = true := beq_iff_eq.mpr c28
      have c28b1 : (t411 != t413) = false := bne_eq_false_iff_eq.mpr c28
      clear c28
      by_cases c29 : t410 = t412
      ·
       rw [if_pos c29] at H
       have c29b0 : (t410 == t412) = true := beq_iff_eq.mpr c29
       have c29b1 : (t410 != t412) = false := bne_eq_false_iff_eq.mpr c29
       clear c29
       replace H := Option.bind_eq_some_iff.mp H
       obtain ⟨t428, A300, H⟩ := H
       (try dsimp only at H)
       have A30 := Aside0.mk A300
       clear A300
       by_cases c31 : t414.toList = t428.toList
       ·
        rw [if_pos c31] at H
        have c31b0 : (t414.toList == t428.toList) = true := beq_iff_eq.mpr c31
        have c31b1 : (t414.toList != t428.toList) = false := bne_eq_false_iff_eq.mpr c31
        clear c31
        by_cases c32 : (t416 != (t414.toList != ([] : List UInt8))) = true
        ·
         rw [if_pos c32] at H
         have c32b0 : (t416 != (t414.toList != ([] : List UInt8))) = true := c32
         (try have c32e := told_nilT c32b0)
         (try (have c32b1 : decide (t416 = (t414.toList != ([] : List UInt8))) = false := by simpa using c32))
         (try (have c32b2 : (t416 == (t414.toList != ([] : List UInt8))) = false := by simpa using c32))
         (try (have c32b3 : ¬ (t416 = (t414.toList != ([] : List UInt8))) := by simpa using c32))
         clear c32
         exact laws_FnRoutes.j0_no hT.out H
        ·
         rw [if_neg c32] at H
         have c32b0 : (t416 != (t414.toList != ([] : List UInt8))) = false := by simpa using c32
         (try have c32e := told_nilF c32b0)
         (try (have c32b1 : decide (t416 = (t414.toList != ([] : List UInt8))) = true := by simpa using c32))
         (try (have c32b2 : (t416 == (t414.toList != ([] : List UInt8))) = true := by simpa using c32))
         clear c32
         by_cases c34 : t416 = true
         ·
          subst c34
          have H1 : ((laws_likeSteps9.f k t415 t402).bind fun t429 => (if t429 = true then (if (t421 != t425) = true then (laws_FnRoutes.j0 k t402 t403 t406 t407 t410 true) else ((laws_likeSteps9.f k t420 t424).bind fun t430 => (if t430 = true then (if t421 = true then ((impl_RouteText.f k t420).bind fun t431 => (if t431.toList = t419.toList then ((impl_IsRoute.f k t402).bind fun t432 => (laws_FnRoutes.j0 k t402 t403 t406 t407 t410 (t432 != true))) else (laws_FnRoutes.j0 k t402 t403 t406 t407 t410 true))) else ((impl_IsRoute.f k t402).bind fun t433 => (laws_FnRoutes.j0 k t402 t403 t406 t407 t410 (t433 != true)))) else (laws_FnRoutes.j0 k t402 t403 t406 t407 t410 true)))) else (laws_FnRoutes.j0 k t402 t403 t406 t407 t410 true))) = some r := by rw [if_pos rfl] at H; exact H
          clear H
          have H := H1
          clear H1
          replace H := Option.bind_eq_some_iff.mp H
          obtain ⟨t429, A350, H⟩ := H
          (try dsimp only at H)
          have A35 := Aside0.mk A350
          clear A350
          by_cases c36 : t429 = true
          ·
           subst c36
           have H1 : (if (t421 != t425) = true then (laws_FnRoutes.j0 k t402 t403 t406 t407 t410 true) else ((laws_likeSteps9.f k t420 t424).bind fun t430 => (if t430 = true then (if t421 = true then ((impl_RouteText.f k t420).bind fun t431 => (if t431.toList = t419.toList then ((impl_IsRoute.f k t402).bind fun t432 => (laws_FnRoutes.j0 k t402 t403 t406 t407 t410 (t432 != true))) else (laws_FnRoutes.j0 k t402 t403 t406 t407 t410 true))) else ((impl_IsRoute.f k t402).bind fun t433 => (laws_FnRoutes.j0 k t402 t403 t406 t407 t410 (t433 != true)))) else (laws_FnRoutes.j0 k t402 t403 t406 t407 t410 true)))) = some r := by rw [if_pos rfl] at H; exact H
           clear H
           have H := H1
           clear H1
           by_cases c37 : (t421 != t425) = true
           ·
            rw [if_pos c37] at H
            have c37b0 : (t421 != t425) = true := c37
            (try (have c37b1 : decide (t421 = t425) = false := by simpa using c37))
            (try (have c37b2 : (t421 == t425) = false := by simpa using c37))
            (try (have c37b3 : ¬ (t421 = t425) := by simpa using c37))
            clear c37
            exact laws_FnRoutes.j0_no hT.out H
           ·
            rw [if_neg c37] at H
            have c37b0 : (t421 != t425) = false := by simpa using c37
            (try (have c37b1 : decide (t421 = t425) = true := by simpa using c37))
            (try (have c37b2 : (t421 == t425) = true := by simpa using c37))
            clear c37
            replace H := Option.bind_eq_some_iff.mp H
            obtain ⟨t430, A400, H⟩ := H
            (try dsimp only at H)
            have A40 := Aside0.mk A400
            clear A400
            by_cases c41 : t430 = true
            ·
             subst c41
             have H1 : (if t421 = true then ((impl_RouteText.f k t420).bind fun t431 => (if t431.toList = t419.toList then ((impl_IsRoute.f k t402).bind fun t432 => (laws_FnRoutes.j0 k t402 t403 t406 t407 t410 (t432 != true))) else (laws_FnRoutes.j0 k t402 t403 t406 t407 t410 true))) else ((impl_IsRoute.f k t402).bind fun t433 => (laws_FnRoutes.j0 k t402 t403 t406 t407 t410 (t433 != true)))) = some r := by rw [if_pos rfl] at H; exact H
             clear H
             have H := H1
             clear H1
             by_cases c42 : t421 = true
             ·
              subst c42
              have H1 : ((impl_RouteText.f k t420).bind fun t431 => (if t431.toList = t419.toList then ((impl_IsRoute.f k t402).bind fun t432 => (laws_FnRoutes.j0 k t402 t403 t406 t407 t410 (t432 != true))) else (laws_FnRoutes.j0 k t402 t403 t406 t407 t410 true))) = some r := by rw [if_pos rfl] at H; exact H
              clear H
              have H := H1
              clear H1
              replace H := Option.bind_eq_some_iff.mp H
              obtain ⟨t431, A430, H⟩ := H
              (try dsimp only at H)
              have A43 := Aside0.mk A430
              clear A430
              by_cases c44 : t431.toList = t419.toList
              ·
               rw [if_pos c44] at H
               have c44b0 : (t431.toList == t419.toList) = true := beq_iff_eq.mpr c44
               have c44b1 : (t431.toList != t419.toList) = false := bne_eq_false_iff_eq.mpr c44
               clear c44
               replace H := Option.bind_eq_some_iff.mp H
               obtain ⟨t432, A450, H⟩ := H
               (try dsimp only at H)
               have A45 := Aside0.mk A450
               clear A450
               have H' := Aside0.mk H
               clear H
               go_wp2_with (first | (go_at_call 14; (with_reducible refine (spec_RouteText.calls k _ _ t402 t428 _ ?side1 ?side2 A30.out).mono ?_); (case side1 => repeat (first | exact (Kd.R_reads' HO405.out).2.2 | (with_reducible refine Kd.C_alloc ?_ _) | (with_reducible refine Kd.C_drewN ?_ _) | (with_reducible refine Kd.C_drew ?_))); (case side2 => exact (Kd.R_reads' HO405.out).2.1); rintro e w46 ⟨rfl, hb⟩; have n0_ := Aside0.mk (Kd.R_below (by (with_reducible repeat (first | apply Kd.R_alloc | apply Kd.R_drewN | apply Kd.R_drew)); exact HO405.out) hb); have n1_ := Aside0.mk (Kd.R_below (by (with_reducible repeat (first | apply Kd.R_alloc | apply Kd.R_drewN | apply Kd.R_drew)); exact HO418.out) hb); have n2_ := Aside0.mk (Kd.R_below (by (with_reducible repeat (first | apply Kd.R_alloc | apply Kd.R_drewN | apply Kd.R_drew)); exact HO423.out) hb); have n3_ := Aside0.mk (Kd.R_below (by (with_reducible repeat (first | apply Kd.R_alloc | apply Kd.R_drewN | apply Kd.R_drew)); exact HO427.out) hb); have n4_ := Aside0.mk (below_step (by repeat (first | (with_reducible first | exact HB.out | apply below_alloc | apply pw_below_drewN | apply below_drew1) | exact HB.out)) hb); clear HO405; clear HO418; clear HO423; clear HO427; clear HB; have HO405 := n0_; have HO418 := n1_; have HO423 := n2_; have HO427 := n3_; have HB := n4_; clear n0_ n1_ n2_ n3_ n4_; (try clear hb); (try clear hb2); (try clear hk); (try clear hi); obtain ⟨Ao47, co47, eo47⟩ := Kd.R_slice HO418.out; subst eo47) | (go_at_call 15; (with_reducible refine (laws_likeSteps9.calls k _ _ t415 _ _ t402 true _ ?side1 ?side2 ?side3 ?side4 A35.out).mono ?_); (case side1 => repeat (first | exact (Kd.R_reads' HO418.out).2.2 | (with_reducible refine Kd.C_alloc ?_ _) | (with_reducible refine Kd.C_drewN ?_ _) | (with_reducible refine Kd.C_drew ?_))); (case side2 => exact (Kd.R_reads' HO418.out).2.1); (case side3 => repeat (first | exact (Kd.R_reads' HO405.out).2.2 | (with_reducible refine Kd.C_alloc ?_ _) | (with_reducible refine Kd.C_drewN ?_ _) | (with_reducible refine Kd.C_drew ?_))); (case side4 => exact (Kd.R_reads' HO405.out).2.1); rintro e w' ⟨rfl, ⟨nd, rfl⟩⟩; obtain ⟨Ao48, co48, eo48⟩ := Kd.R_slice HO423.out; subst eo48; obtain ⟨Ao49, co49, eo49⟩ := Kd.R_slice HO427.out; subst eo49) | (go_at_call 15; (with_reducible refine (laws_likeSteps9.calls k _ _ t420 _ _ t424 true _ ?side1 ?side2 ?side3 ?side4 A40.out).mono ?_); (case side1 => repeat (first | exact (Kd.R_reads' HO423.out).2.2 | (with_reducible refine Kd.C_alloc ?_ _) | (with_reducible refine Kd.C_drewN ?_ _) | (with_reducible refine Kd.C_drew ?_))); (case side2 => exact (Kd.R_reads' HO423.out).2.1); (case side3 => repeat (first | exact (Kd.R_reads' HO427.out).2.2 | (with_reducible refine Kd.C_alloc ?_ _) | (with_reducible refine Kd.C_drewN ?_ _) | (with_reducible refine Kd.C_drew ?_))); (case side4 => exact (Kd.R_reads' HO427.out).2.1); rintro e w' ⟨rfl, ⟨nd, rfl⟩⟩) | (go_at_call 10; (with_reducible refine (impl_RouteText.calls (htb := ?sidetb) k _ _ t420 t431 _ ?side1 ?side2 A43.out).mono ?_); (case sidetb => exact tabW_on HTB.out (by repeat (first | (with_reducible first | exact HB.out | apply below_alloc | apply pw_below_drewN | apply below_drew1) | exact HB.out))); (case side1 => repeat (first | exact (Kd.R_reads' HO423.out).2.2 | (with_reducible refine Kd.C_alloc ?_ _) | (with_reducible refine Kd.C_drewN ?_ _) | (with_reducible refine Kd.C_drew ?_))); (case side2 => exact (Kd.R_reads' HO423.out).2.1); rintro e w50 ⟨rfl, hb⟩; have n0_ := Aside0.mk (Kd.R_below (by (with_reducible repeat (first | apply Kd.R_alloc | apply Kd.R_drewN | apply Kd.R_drew)); exact HO405.out) hb); have n1_ := Aside0.mk (Kd.R_below (by (with_reducible repeat (first | apply Kd.R_alloc | apply Kd.R_drewN | apply Kd.R_drew)); exact HO418.out) hb); have n2_ := Aside0.mk (Kd.R_below (by (with_reducible repeat (first | apply Kd.R_alloc | apply Kd.R_drewN | apply Kd.R_drew)); exact HO423.out) hb); have n3_ := Aside0.mk (Kd.R_below (by (with_reducible repeat (first | apply Kd.R_alloc | apply Kd.R_drewN | apply Kd.R_drew)); exact HO427.out) hb); have n4_ := Aside0.mk (below_step (by repeat (first | (with_reducible first | exact HB.out | apply below_alloc | apply pw_below_drewN | apply below_drew1) | exact HB.out)) hb); clear HO405; clear HO418; clear HO423; clear HO427; clear HB; have HO405 := n0_; have HO418 := n1_; have HO423 := n2_; have HO427 := n3_; have HB := n4_; clear n0_ n1_ n2_ n3_ n4_; (try clear hb); (try clear hb2); (try clear hk); (try clear hi)) | (go_at_call 16; (with_reducible refine (impl_IsRoute.calls k _ _ t402 t432 _ ?side1 ?side2 A45.out).mono ?_); (case side1 => repeat (first | exact (Kd.R_reads' HO405.out).2.2 | (with_reducible refine Kd.C_alloc ?_ _) | (with_reducible refine Kd.C_drewN ?_ _) | (with_reducible refine Kd.C_drew ?_))); (case side2 => exact (Kd.R_reads' HO405.out).2.1); rintro e w51 ⟨rfl, hb⟩; have n0_ := Aside0.mk (Kd.R_below (by (with_reducible repeat (first | apply Kd.R_alloc | apply Kd.R_drewN | apply Kd.R_drew)); exact HO405.out) hb); have n1_ := Aside0.mk (Kd.R_below (by (with_reducible repeat (first | apply Kd.R_alloc | apply Kd.R_drewN | apply Kd.R_drew)); exact HO418.out) hb); have n2_ := Aside0.mk (Kd.R_below (by (with_reducible repeat (first | apply Kd.R_alloc | apply Kd.R_drewN | apply Kd.R_drew)); exact HO423.out) hb); have n3_ := Aside0.mk (Kd.R_below (by (with_reducible repeat (first | apply Kd.R_alloc | apply Kd.R_drewN | apply Kd.R_drew)); exact HO427.out) hb); have n4_ := Aside0.mk (below_step (by repeat (first | (with_reducible first | exact HB.out | apply below_alloc | apply pw_below_drewN | apply below_drew1) | exact HB.out)) hb); clear HO405; clear HO418; clear HO423; clear HO427; clear HB; have HO405 := n0_; have HO418 := n1_; have HO423 := n2_; have HO427 := n3_; have HB := n4_; clear n0_ n1_ n2_ n3_ n4_; (try clear hb); (try clear hb2); (try clear hk); (try clear hi)))
               go_meet
               case rel => exact ⟨_, ((t432 != true)), (by first | rfl | (simp; done) | (simp [*]; done)), H', ⟨by first | omega | exact Nat.le_refl _⟩, ⟨by (with_reducible repeat (first | apply Kd.R_alloc | apply Kd.R_drewN | apply Kd.R_drew)); exact Kd.R_mono HO405.out (fun _ hk => trivial)⟩, ⟨by repeat (first | (with_reducible first | exact HB.out | apply below_alloc | apply pw_below_drewN | apply below_drew1) | exact HB.out)⟩⟩
              ·
               rw [if_neg c44] at H
               have c44b0 : (t431.toList == t419.toList) = false := beq_eq_false_iff_ne.mpr c44
               have c44b1 : (t431.toList != t419.toList) = true := bne_iff_ne.mpr c44
               exact laws_FnRoutes.j0_no hT.out H
             ·
              replace c42 := Bool.eq_false_iff.mpr c42
              subst c42
              have H1 : ((impl_IsRoute.f k t402).bind fun t433 => (laws_FnRoutes.j0 k t402 t403 t406 t407 t410 (t433 != true))) = some r := by rw [if_neg (show ¬ (false = true) by decide)] at H; exact H
              clear H
              have H := H1
              clear H1
              replace H := Option.bind_eq_some_iff.mp H
              obtain ⟨t433, A570, H⟩ := H
              (try dsimp only at H)
              have A57 := Aside0.mk A570
              clear A570
              have H' := Aside0.mk H
              clear H
              go_wp2_with (first | (go_at_call 14; (with_reducible refine (spec_RouteText.calls k _ _ t402 t428 _ ?side1 ?side2 A30.out).mono ?_); (case side1 => repeat (first | exact (Kd.R_reads' HO405.out).2.2 | (with_reducible refine Kd.C_alloc ?_ _) | (with_reducible refine Kd.C_drewN ?_ _) | (with_reducible refine Kd.C_drew ?_))); (case side2 => exact (Kd.R_reads' HO405.out).2.1); rintro e w58 ⟨rfl, hb⟩; have n0_ := Aside0.mk (Kd.R_below (by (with_reducible repeat (first | apply Kd.R_alloc | apply Kd.R_drewN | apply Kd.R_drew)); exact HO405.out) hb); have n1_ := Aside0.mk (Kd.R_below (by (with_reducible repeat (first | apply Kd.R_alloc | apply Kd.R_drewN | apply Kd.R_drew)); exact HO418.out) hb); have n2_ := Aside0.mk (Kd.R_below (by (with_reducible repeat (first | apply Kd.R_alloc | apply Kd.R_drewN | apply Kd.R_drew)); exact HO423.out) hb); have n3_ := Aside0.mk (Kd.R_below (by (with_reducible repeat (first | apply Kd.R_alloc | apply Kd.R_drewN | apply Kd.R_drew)); exact HO427.out) hb); have n4_ := Aside0.mk (below_step (by repeat (first | (with_reducible first | exact HB.out | apply below_alloc | apply pw_below_drewN | apply below_drew1) | exact HB.out)) hb); clear HO405; clear HO418; clear HO423; clear HO427; clear HB; have HO405 := n0_; have HO418 := n1_; have HO423 := n2_; have HO427 := n3_; have HB := n4_; clear n0_ n1_ n2_ n3_ n4_; (try clear hb); (try clear hb2); (try clear hk); (try clear hi); obtain ⟨Ao59, co59, eo59⟩ := Kd.R_slice HO418.out; subst eo59) | (go_at_call 15; (with_reducible refine (laws_likeSteps9.calls k _ _ t415 _ _ t402 true _ ?side1 ?side2 ?side3 ?side4 A35.out).mono ?_); (case side1 => repeat (first | exact (Kd.R_reads' HO418.out).2.2 | (with_reducible refine Kd.C_alloc ?_ _) | (with_reducible refine Kd.C_drewN ?_ _) | (with_reducible refine Kd.C_drew ?_))); (case side2 => exact (Kd.R_reads' HO418.out).2.1); (case side3 => repeat (first | exact (Kd.R_reads' HO405.out).2.2 | (with_reducible refine Kd.C_alloc ?_ _) | (with_reducible refine Kd.C_drewN ?_ _) | (with_reducible refine Kd.C_drew ?_))); (case side4 => exact (Kd.R_reads' HO405.out).2.1); rintro e w' ⟨rfl, ⟨nd, rfl⟩⟩; obtain ⟨Ao60, co60, eo60⟩ := Kd.R_slice HO423.out; subst eo60; obtain ⟨Ao61, co61, eo61⟩ := Kd.R_slice HO427.out; subst eo61) | (go_at_call 15; (with_reducible refine (laws_likeSteps9.calls k _ _ t420 _ _ t424 true _ ?side1 ?side2 ?side3 ?side4 A40.out).mono ?_); (case side1 => repeat (first | exact (Kd.R_reads' HO423.out).2.2 | (with_reducible refine Kd.C_alloc ?_ _) | (with_reducible refine Kd.C_drewN ?_ _) | (with_reducible refine Kd.C_drew ?_))); (case side2 => exact (Kd.R_reads' HO423.out).2.1); (case side3 => repeat (first | exact (Kd.R_reads' HO427.out).2.2 | (with_reducible refine Kd.C_alloc ?_ _) | (with_reducible refine Kd.C_drewN ?_ _) | (with_reducible refine Kd.C_drew ?_))); (case side4 => exact (Kd.R_reads' HO427.out).2.1); rintro e w' ⟨rfl, ⟨nd, rfl⟩⟩) | (go_at_call 16; (with_reducible refine (impl_IsRoute.calls k _ _ t402 t433 _ ?side1 ?side2 A57.out).mono ?_); (case side1 => repeat (first | exact (Kd.R_reads' HO405.out).2.2 | (with_reducible refine Kd.C_alloc ?_ _) | (with_reducible refine Kd.C_drewN ?_ _) | (with_reducible refine Kd.C_drew ?_))); (case side2 => exact (Kd.R_reads' HO405.out).2.1); rintro e w62 ⟨rfl, hb⟩; have n0_ := Aside0.mk (Kd.R_below (by (with_reducible repeat (first | apply Kd.R_alloc | apply Kd.R_drewN | apply Kd.R_drew)); exact HO405.out) hb); have n1_ := Aside0.mk (Kd.R_below (by (with_reducible repeat (first | apply Kd.R_alloc | apply Kd.R_drewN | apply Kd.R_drew)); exact HO418.out) hb); have n2_ := Aside0.mk (Kd.R_below (by (with_reducible repeat (first | apply Kd.R_alloc | apply Kd.R_drewN | apply Kd.R_drew)); exact HO423.out) hb); have n3_ := Aside0.mk (Kd.R_below (by (with_reducible repeat (first | apply Kd.R_alloc | apply Kd.R_drewN | apply Kd.R_drew)); exact HO427.out) hb); have n4_ := Aside0.mk (below_step (by repeat (first | (with_reducible first | exact HB.out | apply below_alloc | apply pw_below_drewN | apply below_drew1) | exact HB.out)) hb); clear HO405; clear HO418; clear HO423; clear HO427; clear HB; have HO405 := n0_; have HO418 := n1_; have HO423 := n2_; have HO427 := n3_; have HB := n4_; clear n0_ n1_ n2_ n3_ n4_; (try clear hb); (try clear hb2); (try clear hk); (try clear hi)))
              go_meet
              case rel => exact ⟨_, ((t433 != true)), (by first | rfl | (simp; done) | (simp [*]; done)), H', ⟨by first | omega | exact Nat.le_refl _⟩, ⟨by (with_reducible repeat (first | apply Kd.R_alloc | apply Kd.R_drewN | apply Kd.R_drew)); exact Kd.R_mono HO405.out (fun _ hk => trivial)⟩, ⟨by repeat (first | (with_reducible first | exact HB.out | apply below_alloc | apply pw_below_drewN | apply below_drew1) | exact HB.out)⟩⟩
            ·
             replace c41 := Bool.eq_false_iff.mpr c41
             subst c41
             have H1 : (laws_FnRoutes.j0 k t402 t403 t406 t407 t410 true) = some r := by rw [if_neg (show ¬ (false = true) by decide)] at H; exact H
             clear H
             have H := H1
             clear H1
             exact laws_FnRoutes.j0_no hT.out H
          ·
           replace c36 := Bool.eq_false_iff.mpr c36
           subst c36
           have H1 : (laws_FnRoutes.j0 k t402 t403 t406 t407 t410 true) = some r := by rw [if_neg (show ¬ (false = true) by decide)] at H; exact H
           clear H
           have H := H1
           clear H1
           exact laws_FnRoutes.j0_no hT.out H
         ·
          replace c34 := Bool.eq_false_iff.mpr c34
          subst c34
          have H1 : (if (t421 != t425) = true then (laws_FnRoutes.j0 k t402 t403 t406 t407 t410 true) else ((laws_likeSteps9.f k t420 t424).bind fun t434 => (if t434 = true then (if t421 = true then ((impl_RouteText.f k t420).bind fun t435 => (if t435.toList = t419.toList then ((impl_IsRoute.f k t402).bind fun t436 => (laws_FnRoutes.j0 k t402 t403 t406 t407 t410 (t436 != false))) else (laws_FnRoutes.j0 k t402 t403 t406 t407 t410 true))) else ((impl_IsRoute.f k t402).bind fun t437 => (laws_FnRoutes.j0 k t402 t403 t406 t407 t410 (t437 != false)))) else (laws_FnRoutes.j0 k t402 t403 t406 t407 t410 true)))) = some r := by rw [if_neg (show ¬ (false = true) by decide)] at H; exact H
          clear H
          have H := H1
          clear H1
          by_cases c69 : (t421 != t425) = true
          ·
           rw [if_pos c69] at H
           have c69b0 : (t421 != t425) = true := c69
           (try (have c69b1 : decide (t421 = t425) = false := by simpa using c69))
           (try (have c69b2 : (t421 == t425) = false := by simpa using c69))
           (try (have c69b3 : ¬ (t421 = t425) := by simpa using c69))
           clear c69
           exact laws_FnRoutes.j0_no hT.out H
          ·
           rw [if_neg c69] at H
           have c69b0 : (t421 != t425) = false := by simpa using c69
           (try (have c69b1 : decide (t421 = t425) = true := by simpa using c69))
           (try (have c69b2 : (t421 == t425) = true := by simpa using c69))
           clear c69
           replace H := Option.bind_eq_some_iff.mp H
           obtain ⟨t434, A710, H⟩ := H
           (try dsimp only at H)
           have A71 := Aside0.mk A710
           clear A710
           by_cases c72 : t434 = true
           ·
            subst c72
            have H1 : (if t421 = true then ((impl_RouteText.f k t420).bind fun t435 => (if t435.toList = t419.toList then ((impl_IsRoute.f k t402).bind fun t436 => (laws_FnRoutes.j0 k t402 t403 t406 t407 t410 (t436 != false))) else (laws_FnRoutes.j0 k t402 t403 t406 t407 t410 true))) else ((impl_IsRoute.f k t402).bind fun t437 => (laws_FnRoutes.j0 k t402 t403 t406 t407 t410 (t437 != false)))) = some r := by rw [if_pos rfl] at H; exact H
            clear H
            have H := H1
            clear H1
            by_cases c73 : t421 = true
            ·
             subst c73
             have H1 : ((impl_RouteText.f k t420).bind fun t435 => (if t435.toList = t419.toList then ((impl_IsRoute.f k t402).bind fun t436 => (laws_FnRoutes.j0 k t402 t403 t406 t407 t410 (t436 != false))) else (laws_FnRoutes.j0 k t402 t403 t406 t407 t410 true))) = some r := by rw [if_pos rfl] at H; exact H
             clear H
             have H := H1
             clear H1
             replace H := Option.bind_eq_some_iff.mp H
             obtain ⟨t435, A740, H⟩ := H
             (try dsimp only at H)
             have A74 := Aside0.mk A740
             clear A740
             by_cases c75 : t435.toList = t419.toList
             ·
              rw [if_pos c75] at H
              have c75b0 : (t435.toList == t419.toList) = true := beq_iff_eq.mpr c75
              have c75b1 : (t435.toList != t419.toList) = false := bne_eq_false_iff_eq.mpr c75
              clear c75
              replace H := Option.bind_eq_some_iff.mp H
              obtain ⟨t436, A760, H⟩ := H
              (try dsimp only at H)
              have A76 := Aside0.mk A760
              clear A760
              have H' := Aside0.mk H
              clear H
              go_wp2_with (first | (go_at_call 14; (with_reducible refine (spec_RouteText.calls k _ _ t402 t428 _ ?side1 ?side2 A30.out).mono ?_); (case side1 => repeat (first | exact (Kd.R_reads' HO405.out).2.2 | (with_reducible refine Kd.C_alloc ?_ _) | (with_reducible refine Kd.C_drewN ?_ _) | (with_reducible refine Kd.C_drew ?_))); (case side2 => exact (Kd.R_reads' HO405.out).2.1); rintro e w77 ⟨rfl, hb⟩; have n0_ := Aside0.mk (Kd.R_below (by (with_reducible repeat (first | apply Kd.R_alloc | apply Kd.R_drewN | apply Kd.R_drew)); exact HO405.out) hb); have n1_ := Aside0.mk (Kd.R_below (by (with_reducible repeat (first | apply Kd.R_alloc | apply Kd.R_drewN | apply Kd.R_drew)); exact HO418.out) hb); have n2_ := Aside0.mk (Kd.R_below (by (with_reducible repeat (first | apply Kd.R_alloc | apply Kd.R_drewN | apply Kd.R_drew)); exact HO423.out) hb); have n3_ := Aside0.mk (Kd.R_below (by (with_reducible repeat (first | apply Kd.R_alloc | apply Kd.R_drewN | apply Kd.R_drew)); exact HO427.out) hb); have n4_ := Aside0.mk (below_step (by repeat (first | (with_reducible first | exact HB.out | apply below_alloc | apply pw_below_drewN | apply below_drew1) | exact HB.out)) hb); clear HO405; clear HO418; clear HO423; clear HO427; clear HB; have HO405 := n0_; have HO418 := n1_; have HO423 := n2_; have HO427 := n3_; have HB := n4_; clear n0_ n1_ n2_ n3_ n4_; (try clear hb); (try clear hb2); (try clear hk); (try clear hi); obtain ⟨Ao78, co78, eo78⟩ := Kd.R_slice HO423.out; subst eo78; obtain ⟨Ao79, co79, eo79⟩ := Kd.R_slice HO427.out; subst eo79) | (go_at_call 15; (with_reducible refine (laws_likeSteps9.calls k _ _ t420 _ _ t424 true _ ?side1 ?side2 ?side3 ?side4 A71.out).mono ?_); (case side1 => repeat (first | exact (Kd.R_reads' HO423.out).2.2 | (with_reducible refine Kd.C_alloc ?_ _) | (with_reducible refine Kd.C_drewN ?_ _) | (with_reducible refine Kd.C_drew ?_))); (case side2 => exact (Kd.R_reads' HO423.out).2.1); (case side3 => repeat (first | exact (Kd.R_reads' HO427.out).2.2 | (with_reducible refine Kd.C_alloc ?_ _) | (with_reducible refine Kd.C_drewN ?_ _) | (with_reducible refine Kd.C_drew ?_))); (case side4 => exact (Kd.R_reads' HO427.out).2.1); rintro e w' ⟨rfl, ⟨nd, rfl⟩⟩) | (go_at_call 10; (with_reducible refine (impl_RouteText.calls (htb := ?sidetb) k _ _ t420 t435 _ ?side1 ?side2 A74.out).mono ?_); (case sidetb => exact tabW_on HTB.out (by repeat (first | (with_reducible first | exact HB.out | apply below_alloc | apply pw_below_drewN | apply below_drew1) | exact HB.out))); (case side1 => repeat (first | exact (Kd.R_reads' HO423.out).2.2 | (with_reducible refine Kd.C_alloc ?_ _) | (with_reducible refine Kd.C_drewN ?_ _) | (with_reducible refine Kd.C_drew ?_))); (case side2 => exact (Kd.R_reads' HO423.out).2.1); rintro e w80 ⟨rfl, hb⟩; have n0_ := Aside0.mk (Kd.R_below (by (with_reducible repeat (first | apply Kd.R_alloc | apply Kd.R_drewN | apply Kd.R_drew)); exact HO405.out) hb); have n1_ := Aside0.mk (Kd.R_below (by (with_reducible repeat (first | apply Kd.R_alloc | apply Kd.R_drewN | apply Kd.R_drew)); exact HO418.out) hb); have n2_ := Aside0.mk (Kd.R_below (by (with_reducible repeat (first | apply Kd.R_alloc | apply Kd.R_drewN | apply Kd.R_drew)); exact HO423.out) hb); have n3_ := Aside0.mk (Kd.R_below (by (with_reducible repeat (first | apply Kd.R_alloc | apply Kd.R_drewN | apply Kd.R_drew)); exact HO427.out) hb); have n4_ := Aside0.mk (below_step (by repeat (first | (with_reducible first | exact HB.out | apply below_alloc | apply pw_below_drewN | apply below_drew1) | exact HB.out)) hb); clear HO405; clear HO418; clear HO423; clear HO427; clear HB; have HO405 := n0_; have HO418 := n1_; have HO423 := n2_; have HO427 := n3_; have HB := n4_; clear n0_ n1_ n2_ n3_ n4_; (try clear hb); (try clear hb2); (try clear hk); (try clear hi)) | (go_at_call 16; (with_reducible refine (impl_IsRoute.calls k _ _ t402 t436 _ ?side1 ?side2 A76.out).mono ?_); (case side1 => repeat (first | exact (Kd.R_reads' HO405.out).2.2 | (with_reducible refine Kd.C_alloc ?_ _) | (with_reducible refine Kd.C_drewN ?_ _) | (with_reducible refine Kd.C_drew ?_))); (case side2 => exact (Kd.R_reads' HO405.out).2.1); rintro e w81 ⟨rfl, hb⟩; have n0_ := Aside0.mk (Kd.R_below (by (with_reducible repeat (first | apply Kd.R_alloc | apply Kd.R_drewN | apply Kd.R_drew)); exact HO405.out) hb); have n1_ := Aside0.mk (Kd.R_below (by (with_reducible repeat (first | apply Kd.R_alloc | apply Kd.R_drewN | apply Kd.R_drew)); exact HO418.out) hb); have n2_ := Aside0.mk (Kd.R_below (by (with_reducible repeat (first | apply Kd.R_alloc | apply Kd.R_drewN | apply Kd.R_drew)); exact HO423.out) hb); have n3_ := Aside0.mk (Kd.R_below (by (with_reducible repeat (first | apply Kd.R_alloc | apply Kd.R_drewN | apply Kd.R_drew)); exact HO427.out) hb); have n4_ := Aside0.mk (below_step (by repeat (first | (with_reducible first | exact HB.out | apply below_alloc | apply pw_below_drewN | apply below_drew1) | exact HB.out)) hb); clear HO405; clear HO418; clear HO423; clear HO427; clear HB; have HO405 := n0_; have HO418 := n1_; have HO423 := n2_; have HO427 := n3_; have HB := n4_; clear n0_ n1_ n2_ n3_ n4_; (try clear hb); (try clear hb2); (try clear hk); (try clear hi)))
              go_meet
              case rel => exact ⟨_, ((t436 != false)), (by first | rfl | (simp; done) | (simp [*]; done)), H', ⟨by first | omega | exact Nat.le_refl _⟩, ⟨by (with_reducible repeat (first | apply Kd.R_alloc | apply Kd.R_drewN | apply Kd.R_drew)); exact Kd.R_mono HO405.out (fun _ hk => trivial)⟩, ⟨by repeat (first | (with_reducible first | exact HB.out | apply below_alloc | apply pw_below_drewN | apply below_drew1) | exact HB.out)⟩⟩
             ·
              rw [if_neg c75] at H
              have c75b0 : (t435.toList == t419.toList) = false := beq_eq_false_iff_ne.mpr c75
              have c75b1 : (t435.toList != t419.toList) = true := bne_iff_ne.mpr c75
              exact laws_FnRoutes.j0_no hT.out H
            ·
             replace c73 := Bool.eq_false_iff.mpr c73
             subst c73
             have H1 : ((impl_IsRoute.f k t402).bind fun t437 => (laws_FnRoutes.j0 k t402 t403 t406 t407 t410 (t437 != false))) = some r := by rw [if_neg (show ¬ (false = true) by decide)] at H; exact H
             clear H
             have H := H1
             clear H1
             replace H := Option.bind_eq_some_iff.mp H
             obtain ⟨t437, A860, H⟩ := H
             (try dsimp only at H)
             have A86 := Aside0.mk A860
             clear A860
             have H' := Aside0.mk H
             clear H
             go_wp2_with (first | (go_at_call 14; (with_reducible refine (spec_RouteText.calls k _ _ t402 t428 _ ?side1 ?side2 A30.out).mono ?_); (case side1 => repeat (first | exact (Kd.R_reads' HO405.out).2.2 | (with_reducible refine Kd.C_alloc ?_ _) | (with_reducible refine Kd.C_drewN ?_ _) | (with_reducible refine Kd.C_drew ?_))); (case side2 => exact (Kd.R_reads' HO405.out).2.1); rintro e w87 ⟨rfl, hb⟩; have n0_ := Aside0.mk (Kd.R_below (by (with_reducible repeat (first | apply Kd.R_alloc | apply Kd.R_drewN | apply Kd.R_drew)); exact HO405.out) hb); have n1_ := Aside0.mk (Kd.R_below (by (with_reducible repeat (first | apply Kd.R_alloc | apply Kd.R_drewN | apply Kd.R_drew)); exact HO418.out) hb); have n2_ := Aside0.mk (Kd.R_below (by (with_reducible repeat (first | apply Kd.R_alloc | apply Kd.R_drewN | apply Kd.R_drew)); exact HO423.out) hb); have n3_ := Aside0.mk (Kd.R_below (by (with_reducible repeat (first | apply Kd.R_alloc | apply Kd.R_drewN | apply Kd.R_drew)); exact HO427.out) hb); have n4_ := Aside0.mk (below_step (by repeat (first | (with_reducible first | exact HB.out | apply below_alloc | apply pw_below_drewN | apply below_drew1) | exact HB.out)) hb); clear HO405; clear HO418; clear HO423; clear HO427; clear HB; have HO405 := n0_; have HO418 := n1_; have HO423 := n2_; have HO427 := n3_; have HB := n4_; clear n0_ n1_ n2_ n3_ n4_; (try clear hb); (try clear hb2); (try clear hk); (try clear hi); obtain ⟨Ao88, co88, eo88⟩ := Kd.R_slice HO423.out; subst eo88; obtain ⟨Ao89, co89, eo89⟩ := Kd.R_slice HO427.out; subst eo89) | (go_at_call 15; (with_reducible refine (laws_likeSteps9.calls k _ _ t420 _ _ t424 true _ ?side1 ?side2 ?side3 ?side4 A71.out).mono ?_); (case side1 => repeat (first | exact (Kd.R_reads' HO423.out).2.2 | (with_reducible refine Kd.C_alloc ?_ _) | (with_reducible refine Kd.C_drewN ?_ _) | (with_reducible refine Kd.C_drew ?_))); (case side2 => exact (Kd.R_reads' HO423.out).2.1); (case side3 => repeat (first | exact (Kd.R_reads' HO427.out).2.2 | (with_reducible refine Kd.C_alloc ?_ _) | (with_reducible refine Kd.C_drewN ?_ _) | (with_reducible refine Kd.C_drew ?_))); (case side4 => exact (Kd.R_reads' HO427.out).2.1); rintro e w' ⟨rfl, ⟨nd, rfl⟩⟩) | (go_at_call 16; (with_reducible refine (impl_IsRoute.calls k _ _ t402 t437 _ ?side1 ?side2 A86.out).mono ?_); (case side1 => repeat (first | exact (Kd.R_reads' HO405.out).2.2 | (with_reducible refine Kd.C_alloc ?_ _) | (with_reducible refine Kd.C_drewN ?_ _) | (with_reducible refine Kd.C_drew ?_))); (case side2 => exact (Kd.R_reads' HO405.out).2.1); rintro e w90 ⟨rfl, hb⟩; have n0_ := Aside0.mk (Kd.R_below (by (with_reducible repeat (first | apply Kd.R_alloc | apply Kd.R_drewN | apply Kd.R_drew)); exact HO405.out) hb); have n1_ := Aside0.mk (Kd.R_below (by (with_reducible repeat (first | apply Kd.R_alloc | apply Kd.R_drewN | apply Kd.R_drew)); exact HO418.out) hb); have n2_ := Aside0.mk (Kd.R_below (by (with_reducible repeat (first | apply Kd.R_alloc | apply Kd.R_drewN | apply Kd.R_drew)); exact HO423.out) hb); have n3_ := Aside0.mk (Kd.R_below (by (with_reducible repeat (first | apply Kd.R_alloc | apply Kd.R_drewN | apply Kd.R_drew)); exact HO427.out) hb); have n4_ := Aside0.mk (below_step (by repeat (first | (with_reducible first | exact HB.out | apply below_alloc | apply pw_below_drewN | apply below_drew1) | exact HB.out)) hb); clear HO405; clear HO418; clear HO423; clear HO427; clear HB; have HO405 := n0_; have HO418 := n1_; have HO423 := n2_; have HO427 := n3_; have HB := n4_; clear n0_ n1_ n2_ n3_ n4_; (try clear hb); (try clear hb2); (try clear hk); (try clear hi)))
             go_meet
             case rel => exact ⟨_, ((t437 != false)), (by first | rfl | (simp; done) | (simp [*]; done)), H', ⟨by first | omega | exact Nat.le_refl _⟩, ⟨by (with_reducible repeat (first | apply Kd.R_alloc | apply Kd.R_drewN | apply Kd.R_drew)); exact Kd.R_mono HO405.out (fun _ hk => trivial)⟩, ⟨by repeat (first | (with_reducible first | exact HB.out | apply below_alloc | apply pw_below_drewN | apply below_drew1) | exact HB.out)⟩⟩
           ·
            replace c72 := Bool.eq_false_iff.mpr c72
            subst c72
            have H1 : (laws_FnRoutes.j0 k t402 t403 t406 t407 t410 true) = some r := by rw [if_neg (show ¬ (false = true) by decide)] at H; exact H
            clear H
            have H := H1
            clear H1
            exact laws_FnRoutes.j0_no hT.out H
       ·
        rw [if_neg c31] at H
        have c31b0 : (t414.toList == t428.toList) = false := beq_eq_false_iff_ne.mpr c31
        have c31b1 : (t414.toList != t428.toList) = true := bne_iff_ne.mpr c31
        exact laws_FnRoutes.j0_no hT.out H
      ·
       rw [if_neg c29] at H
       have c29b0 : (t410 == t412) = false := beq_eq_false_iff_ne.mpr c29
       have c29b1 : (t410 != t412) = true := bne_iff_ne.mpr c29
       exact laws_FnRoutes.j0_no hT.out H
     ·
      rw [if_neg c28] at H
      have c28b0 : (t411 == t413) = false := beq_eq_false_iff_ne.mpr c28
      have c28b1 : (t411 != t413) = true := bne_iff_ne.mpr c28
      exact laws_FnRoutes.j0_no hT.out H
    ·
     rw [if_neg c27] at H
     have c27b0 : (t406 == t408) = false := beq_eq_false_iff_ne.mpr c27
     have c27b1 : (t406 != t408) = true := bne_iff_ne.mpr c27
     exact laws_FnRoutes.j0_no hT.out H
   ·
    rw [if_neg c26] at H
    have c26b0 : (t407 == t409) = false := beq_eq_false_iff_ne.mpr c26
    have c26b1 : (t407 != t409) = true := bne_iff_ne.mpr c26
    (first | rw [c26b0] | (simp only [i64_w, i32_w]; rw [c26b0]) | skip)
    exact laws_FnRoutes.j0_no hT.out H
  case rest => as_aux_lemma =>
   clear HC14
   try clear c3
   obtain ⟨kq, x141_13, rfl, HA, HJ13, HO_3, HB⟩ := hcut
   cases kq with
   | zero => exact absurd HA.out (by simp [laws_FnRoutes.j0])
   | succ kj13 =>
    have H := HA.out
    clear HA
    simp only [laws_FnRoutes.j0] at H
    by_cases c95 : x141_13 = true
    ·
     subst c95
     have H1 : (some false) = some r := by rw [if_pos rfl] at H; exact H
     clear H
     have H := H1
     clear H1
     exact absurd ((Option.some.inj H).trans hT.out) (by decide)
    ·
     replace c95 := Bool.eq_false_iff.mpr c95
     subst c95
     have H1 : (if t407 = 0 then (if 0 ≤ t406 then (if t406 < (t402.length : Int) then ((impl_StepTime.f ((rd_T37 t402 t406).f0) ((rd_T37 t402 t406).f1) ((rd_T37 t402 t406).f2) t403).bind fun bt439 => (laws_FnRoutes.l0 kj13 t402 t403 t410 bt439.1 bt439.2 0 0)) else (none)) else (none)) else (some true)) = some r := by rw [if_neg (show ¬ (false = true) by decide)] at H; exact H
     clear H
     have H := H1
     clear H1
     by_cases c96 : t407 = 0
     ·
      rw [if_pos c96] at H
      have c96b0 : (t407 == 0) = true := beq_iff_eq.mpr c96
      have c96b1 : (t407 != 0) = false := bne_eq_false_iff_eq.mpr c96
      clear c96
      by_cases c97 : 0 ≤ t406
      ·
       rw [if_pos c97] at H
       have c97b0 : decide (0 ≤ t406) = true := decide_eq_true c97
       clear c97
       by_cases c98 : t406 < (t402.length : Int)
       ·
        rw [if_pos c98] at H
        have c98b0 : decide (t406 < (t402.length : Int)) = true := decide_eq_true c98
        clear c98
        replace H := Option.bind_eq_some_iff.mp H
        obtain ⟨⟨t439, t440⟩, A990, H⟩ := H
        (try dsimp only at H)
        have A99 := Aside0.mk A990
        clear A990
        have H' := Aside0.mk H
        clear H
        have p438 : 0 ≤ (t406 : Int) := of_decide_eq_true (by first | (with_reducible assumption) | assumption)
        have q438 : t406 < (t402.length : Int) := of_decide_eq_true (by first | (with_reducible assumption) | assumption)
        obtain ⟨ad438, e438, hx438_0, hx438_1, hx438_2⟩ := at_T37 (Kd.R_reads' HO_3.out).2.2 t406 p438 q438
        cases e438
        replace p438 := eq_true p438
        replace q438 := eq_true q438
        go_wp2_with (first | ((with_reducible refine gate_callee (f := 17) rfl ?_); refine goesL_ (some 150) rfl rfl Tryz.func17 (by kernel_rfl) rfl #[.agg #[.int .i64 ((rd_T37 t402 t406).f0), .int .i64 ((rd_T37 t402 t406).f1), .int .i64 ((rd_T37 t402 t406).f2)], .int .i64 t403] rfl (by (try simp only [List.map_toArray, List.map_cons, List.map_nil]); first | done | rfl | (simp only [List.length_drop, List.length_take]; rfl)) ?_; (with_reducible refine (impl_StepTime.calls ((rd_T37 t402 t406).f0) ((rd_T37 t402 t406).f1) ((rd_T37 t402 t406).f2) t403 t439 t440 _ A99.out).mono ?_); rintro e w100 ⟨rfl, hb⟩; refine ⟨_, rfl, ?_⟩; have n0_ := Aside0.mk (Kd.R_below (by (with_reducible repeat (first | apply Kd.R_alloc | apply Kd.R_drewN | apply Kd.R_drew)); exact HO_3.out) hb); have n1_ := Aside0.mk (below_step (by repeat (first | (with_reducible first | exact HB.out | apply below_alloc | apply pw_below_drewN | apply below_drew1) | exact HB.out)) hb); clear HO_3; clear HB; have HO_3 := n0_; have HB := n1_; clear n0_ n1_; (try clear hb); (try clear hb2); (try clear hk); (try clear hi)))
        go_loopg [23, 24] kj13 (fun kq v23 v24 w' => ∃ (x23_2 : Int) (x24_2 : Int), v23 = .int .i64 x23_2 ∧ v24 = .int .i64 x24_2 ∧ Aside0 (laws_FnRoutes.l0 kq t402 t403 t410 t439 t440 x23_2 x24_2 = some r) ∧ Aside0 (kq ≤ kj13) ∧ Aside0 (Kd.R k37 37 w' w.heap.size (fun _ => True) (.slice (some ad438) t402.length co16) t402) ∧ Aside0 (Below w.heap.size w w'))
        case atStart => exact ⟨(0), (0), (by first | rfl | (simp; done) | (simp [*]; done)), (by first | rfl | (simp; done) | (simp [*]; done)), H', ⟨Nat.le_refl _⟩, ⟨by (with_reducible repeat (first | apply Kd.R_alloc | apply Kd.R_drewN | apply Kd.R_drew)); exact HO_3.out⟩, ⟨by repeat (first | (with_reducible first | exact HB.out | apply below_alloc | apply pw_below_drewN | apply below_drew1) | exact HB.out)⟩⟩
        case round =>
         clear H'
         try clear c3
         try clear c95
         try clear c96
         try clear c96b0
         try clear c96b1
         try clear c97
         try clear c97b0
         try clear c98
         try clear c98b0
         try clear hx438_0
         try clear hx438_1
         try clear hx438_2
         try clear p438
         try clear q438
         obtain ⟨x23_2, x24_2, rfl, rfl, HA, HK2, HO_3, HB⟩ := hrel
         cases gk with
         | zero => exact absurd HA.out (by simp [laws_FnRoutes.l0])
         | succ k2 =>
          have H := HA.out
          clear HA
          simp only [laws_FnRoutes.l0] at H
          by_cases c101 : x24_2 < (t402.length : Int)
          ·
           rw [if_pos c101] at H
           have c101b0 : decide (x24_2 < (t402.length : Int)) = true := decide_eq_true c101
           clear c101
           by_cases c102 : 0 ≤ x24_2
           ·
            rw [if_pos c102] at H
            have c102b0 : decide (0 ≤ x24_2) = true := decide_eq_true c102
            clear c102
            replace H := Option.bind_eq_some_iff.mp H
            obtain ⟨⟨t442, t443⟩, A1030, H⟩ := H
            (try dsimp only at H)
            have A103 := Aside0.mk A1030
            clear A1030
            by_cases c104 : t443 = 0
            ·
             rw [if_pos c104] at H
             have c104b0 : (t443 == 0) = true := beq_iff_eq.mpr c104
             have c104b1 : (t443 != 0) = false := bne_eq_false_iff_eq.mpr c104
             clear c104
             by_cases c105 : t442 > t439
             ·
              rw [if_pos c105] at H
              have c105b0 : decide (t439 < t442) = true := decide_eq_true c105
              clear c105
              exact absurd ((Option.some.inj H).trans hT.out) (by decide)
             ·
              rw [if_neg c105] at H
              have c105b0 : decide (t439 < t442) = false := decide_eq_false c105
              clear c105
              have H' := Aside0.mk H
              clear H
              have p441 : 0 ≤ (x24_2 : Int) := of_decide_eq_true (by first | (with_reducible assumption) | assumption)
              have q441 : x24_2 < (t402.length : Int) := of_decide_eq_true (by first | (with_reducible assumption) | assumption)
              obtain ⟨ad441, e441, hx441_0, hx441_1, hx441_2⟩ := at_T37 (Kd.R_reads' HO_3.out).2.2 x24_2 p441 q441
              obtain rfl : ad438 = ad441 := (by injection e441)
              replace p441 := eq_true p441
              replace q441 := eq_true q441
              go_wp2_with (first | ((with_reducible refine gate_callee (f := 17) rfl ?_); refine goesL_ (some 165) rfl rfl Tryz.func17 (by kernel_rfl) rfl #[.agg #[.int .i64 ((rd_T37 t402 x24_2).f0), .int .i64 ((rd_T37 t402 x24_2).f1), .int .i64 ((rd_T37 t402 x24_2).f2)], .int .i64 t403] rfl (by (try simp only [List.map_toArray, List.map_cons, List.map_nil]); first | done | rfl | (simp only [List.length_drop, List.length_take]; rfl)) ?_; (with_reducible refine (impl_StepTime.calls ((rd_T37 t402 x24_2).f0) ((rd_T37 t402 x24_2).f1) ((rd_T37 t402 x24_2).f2) t403 t442 t443 _ A103.out).mono ?_); rintro e w106 ⟨rfl, hb⟩; refine ⟨_, rfl, ?_⟩; have n0_ := Aside0.mk (Kd.R_below (by (with_reducible repeat (first | apply Kd.R_alloc | apply Kd.R_drewN | apply Kd.R_drew)); exact HO_3.out) hb); have n1_ := Aside0.mk (below_step (by repeat (first | (with_reducible first | exact HB.out | apply below_alloc | apply pw_below_drewN | apply below_drew1) | exact HB.out)) hb); clear HO_3; clear HB; have HO_3 := n0_; have HB := n1_; clear n0_ n1_; (try clear hb); (try clear hb2); (try clear hk); (try clear hi)))
              go_roundg k2
              case measure => have := HJ13.out; have := HK2.out; omega
              case rel => exact ⟨(wrap64 (x23_2 + t442)), (wrap64 (x24_2 + 1)), (by first | rfl | (simp; done) | (simp [*]; done)), (by first | rfl | (simp; done) | (simp [*]; done)), H', ⟨by have := HJ13.out; have := HK2.out; omega⟩, ⟨by (with_reducible repeat (first | apply Kd.R_alloc | apply Kd.R_drewN | apply Kd.R_drew)); exact HO_3.out⟩, ⟨by repeat (first | (with_reducible first | exact HB.out | apply below_alloc | apply pw_below_drewN | apply below_drew1) | exact HB.out)⟩⟩
            ·
             rw [if_neg c104] at H
             have c104b0 : (t443 == 0) = false := beq_eq_false_iff_ne.mpr c104
             have c104b1 : (t443 != 0) = true := bne_iff_ne.mpr c104
             exact absurd ((Option.some.inj H).trans hT.out) (by decide)
           ·
            rw [if_neg c102] at H
            exact absurd H (by simp)
          ·
           rw [if_neg c101] at H
           have c101b0 : decide (x24_2 < (t402.length : Int)) = false := decide_eq_false c101
           clear c101
           by_cases c107 : t440 = 0
           ·
            rw [if_pos c107] at H
            have c107b0 : (t440 == 0) = true := beq_iff_eq.mpr c107
            have c107b1 : (t440 != 0) = false := bne_eq_false_iff_eq.mpr c107
            clear c107
            obtain rfl := Option.some.inj H
            go_wp2
            go_ret
            exact ⟨by first | rfl | (simp [errW_none, errW_some] <;> rfl) | (simp [*, errW_none, errW_some] <;> rfl), by repeat (first | (with_reducible first | exact HB.out | apply below_alloc | apply pw_below_drewN | apply below_drew1) | exact HB.out)⟩
           ·
            rw [if_neg c107] at H
            have c107b0 : (t440 == 0) = false := beq_eq_false_iff_ne.mpr c107
            have c107b1 : (t440 != 0) = true := bne_iff_ne.mpr c107
            exact absurd ((Option.some.inj H).trans hT.out) (by decide)
       ·
        rw [if_neg c98] at H
        exact absurd H (by simp)
      ·
       rw [if_neg c97] at H
       exact absurd H (by simp)
     ·
      rw [if_neg c96] at H
      have c96b0 : (t407 == 0) = false := beq_eq_false_iff_ne.mpr c96
      have c96b1 : (t407 != 0) = true := bne_iff_ne.mpr c96
      obtain rfl := Option.some.inj H
      go_wp2
      go_ret
      exact ⟨by first | rfl | (simp [errW_none, errW_some] <;> rfl) | (simp [*, errW_none, errW_some] <;> rfl), by repeat (first | (with_reducible first | exact HB.out | apply below_alloc | apply pw_below_drewN | apply below_drew1) | exact HB.out)⟩

/-- The one pure statement of laws_FnRoutes. -/
def laws_FnRoutes.Pure : Prop := ∀ (l0 : List Int), l0.length * 1 ≤ 140737488351232 → (∀ x ∈ l0, (Lit.int .u8 x).wf = true) → ∃ k, laws_FnRoutes.f k l0 = some true
theorem laws_FnRoutes.walk (P : laws_FnRoutes.Pure) (A0 : Option Addr) (c0 : Nat) (l0 : List Int) (w : World) (htb : TabW w) (w0_0 : l0.length * 1 ≤ 140737488351232) (w0_1 : (∀ x ∈ l0, (Lit.int .u8 x).wf = true)) (hr0 : Kd.C (Kd.int .u8) w A0 l0.length l0) (hc0 : l0.length ≤ c0) :
  Calls Tryz.prog 3 #[.slice A0 l0.length c0] w fun e w' => e = .returned (.bool true) ∧ Below w.heap.size w w' := by
 obtain ⟨k, h⟩ := P l0 w0_0 w0_1
 refine (laws_FnRoutes.calls (htb := htb) k A0 c0 l0 true w ⟨rfl⟩ hr0 hc0 h).mono ?_
 rintro e w' ⟨rfl, hd⟩
 exact ⟨rfl, hd⟩

end Go.Proofs.YtcieonfpmchdkaaGreatDoor.PFnRoutes
