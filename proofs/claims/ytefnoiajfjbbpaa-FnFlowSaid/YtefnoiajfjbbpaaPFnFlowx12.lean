-- Printed by the session (wip/myprint.py).
import Derived.Test.YtefnoiajfjbbpaaPFnFlowx0
import Derived.Test.YtefnoiajfjbbpaaPFnFlowx1
import Derived.Test.YtefnoiajfjbbpaaPFnFlowx2
import Derived.Test.YtefnoiajfjbbpaaPFnFlowx4
import Derived.Test.YtefnoiajfjbbpaaPFnFlowx7
import Derived.Test.YtefnoiajfjbbpaaPFnFlowx10
import Derived.Test.YtefnoiajfjbbpaaPFnFlowx11
namespace Go.Proofs.Ytefnoiajfjbbpaa.PFnFlow
open Go.RowKit Go.Proofs.YtefnoiajfjbbpaaW.PrintWords Go.Proofs.YtefnoiajfjbbpaaW.PrintLast Go.Proofs.YtefnoiajfjbbpaaW.PrintMore
attribute [local go_sem] max2_int min2_int max_two min_two max_three min_three max_four min_four   -- for this text's walks alone
set_option linter.unusedVariables false
set_option linter.unusedSimpArgs false

/-! ### laws_FnFlow: function 13 -/
def laws_FnFlow.j0 : Nat → List (S62) → Int → Int → List Int → Int → Int → Int → Bool → Option (Bool)
  | 0, _, _, _, _, _, _, _, _ => none
  | k + 1, x3, x5, x6, x9, x10, x13, x17, x117 => if x117 = true then (some false) else (if x10 = 0 then ((impl_Makespan.f k x3 x9).bind fun bt468 => (if bt468.2 = 0 then (if bt468.1 = x13 then (if x17 ≤ x13 then (if x6 = 0 then (some (decide (x5 ≥ x13))) else (some true)) else (some false)) else (some false)) else (some false))) else (some true))
def laws_FnFlow.f (k : Nat) (l0 : List Int) : Option (Bool) := (laws_big.f l0).bind fun t439 => (if t439 = true then (some true) else ((spec_DrawMakespan.f k l0).bind fun bt440 => ((impl_Makespan.f k bt440.1 bt440.2).bind fun bt446 => ((spec_Makespan.f k bt440.1 bt440.2).bind fun bt448 => ((impl_TwoPartOrder.f k bt440.1).bind fun bt450 => ((spec_TwoPartOrder.f k bt440.1).bind fun bt454 => ((impl_LeastMakespan.f k bt440.1).bind fun bt458 => ((spec_LeastMakespan.f k bt440.1).bind fun bt460 => ((impl_FlowBound.f k bt440.1).bind fun bt462 => ((spec_FlowBound.f k bt440.1).bind fun bt464 => (if bt446.2 = bt448.2 then (if bt446.1 = bt448.1 then (if bt450.2 = bt454.2 then ((laws_likeInts.f k bt450.1 bt454.1).bind fun t466 => (if t466 = true then (if bt458.2 = bt460.2 then (if bt458.1 = bt460.1 then (if bt462.2 = bt464.2 then (if bt462.1 = bt464.1 then ((impl_AreFlowJobs.f k bt440.1).bind fun t467 => (laws_FnFlow.j0 k bt440.1 bt446.1 bt446.2 bt450.1 bt450.2 bt458.1 bt462.1 (t467 != (bt454.2 == 0)))) else (laws_FnFlow.j0 k bt440.1 bt446.1 bt446.2 bt450.1 bt450.2 bt458.1 bt462.1 true)) else (laws_FnFlow.j0 k bt440.1 bt446.1 bt446.2 bt450.1 bt450.2 bt458.1 bt462.1 true)) else (laws_FnFlow.j0 k bt440.1 bt446.1 bt446.2 bt450.1 bt450.2 bt458.1 bt462.1 true)) else (laws_FnFlow.j0 k bt440.1 bt446.1 bt446.2 bt450.1 bt450.2 bt458.1 bt462.1 true)) else (laws_FnFlow.j0 k bt440.1 bt446.1 bt446.2 bt450.1 bt450.2 bt458.1 bt462.1 true))) else (laws_FnFlow.j0 k bt440.1 bt446.1 bt446.2 bt450.1 bt450.2 bt458.1 bt462.1 true)) else (laws_FnFlow.j0 k bt440.1 bt446.1 bt446.2 bt450.1 bt450.2 bt458.1 bt462.1 true)) else (laws_FnFlow.j0 k bt440.1 bt446.1 bt446.2 bt450.1 bt450.2 bt458.1 bt462.1 true))))))))))))
theorem laws_FnFlow.mono_l : ∀ k, (∀ y0 y1 y2 y3 y4 y5 y6 y7, LeO (laws_FnFlow.j0 k y0 y1 y2 y3 y4 y5 y6 y7) (laws_FnFlow.j0 (k + 1) y0 y1 y2 y3 y4 y5 y6 y7))
  | 0 => fun _ _ _ _ _ _ _ _ r h => by simp [laws_FnFlow.j0] at h
  | k + 1 => by
    have ih0 := laws_FnFlow.mono_l k
    · intro y0 y1 y2 y3 y4 y5 y6 y7
      unfold laws_FnFlow.j0
      repeat' first
      | (with_reducible exact ih0 _ _ _ _ _ _ _ _)
      | (with_reducible exact impl_AreFlowJobs.mono _ _)
      | (with_reducible exact impl_FlowBound.mono _ _)
      | (with_reducible exact impl_LeastMakespan.mono _ _)
      | (with_reducible exact impl_Makespan.mono _ _ _)
      | (with_reducible exact impl_TwoPartOrder.mono _ _)
      | (with_reducible exact laws_likeInts.mono _ _ _)
      | (with_reducible exact spec_DrawMakespan.mono _ _)
      | (with_reducible exact spec_FlowBound.mono _ _)
      | (with_reducible exact spec_LeastMakespan.mono _ _)
      | (with_reducible exact spec_Makespan.mono _ _ _)
      | (with_reducible exact spec_TwoPartOrder.mono _ _)
      | (with_reducible exact LeO.refl _)
      | (with_reducible exact LeO.none _)
      | (with_reducible refine LeO.ite ?_ ?_)
      | (with_reducible refine LeO.bind ?_ (fun _ => ?_))
      | exact ih0 _ _ _ _ _ _ _ _
      | exact impl_AreFlowJobs.mono _ _
      | exact impl_FlowBound.mono _ _
      | exact impl_LeastMakespan.mono _ _
      | exact impl_Makespan.mono _ _ _
      | exact impl_TwoPartOrder.mono _ _
      | exact laws_likeInts.mono _ _ _
      | exact spec_DrawMakespan.mono _ _
      | exact spec_FlowBound.mono _ _
      | exact spec_LeastMakespan.mono _ _
      | exact spec_Makespan.mono _ _ _
      | exact spec_TwoPartOrder.mono _ _
      | exact LeO.none _
      | refine LeO.ite ?_ ?_
      | refine LeO.bind ?_ (fun _ => ?_)
theorem laws_FnFlow.mono : ∀ a0 k, LeO (laws_FnFlow.f k a0) (laws_FnFlow.f (k + 1) a0) := by
  intro a0 k
  have ih0 := laws_FnFlow.mono_l k
  unfold laws_FnFlow.f
  repeat' first
      | (with_reducible exact ih0 _ _ _ _ _ _ _ _)
      | (with_reducible exact impl_AreFlowJobs.mono _ _)
      | (with_reducible exact impl_FlowBound.mono _ _)
      | (with_reducible exact impl_LeastMakespan.mono _ _)
      | (with_reducible exact impl_Makespan.mono _ _ _)
      | (with_reducible exact impl_TwoPartOrder.mono _ _)
      | (with_reducible exact laws_likeInts.mono _ _ _)
      | (with_reducible exact spec_DrawMakespan.mono _ _)
      | (with_reducible exact spec_FlowBound.mono _ _)
      | (with_reducible exact spec_LeastMakespan.mono _ _)
      | (with_reducible exact spec_Makespan.mono _ _ _)
      | (with_reducible exact spec_TwoPartOrder.mono _ _)
      | (with_reducible exact LeO.refl _)
      | (with_reducible exact LeO.none _)
      | (with_reducible refine LeO.ite ?_ ?_)
      | (with_reducible refine LeO.bind ?_ (fun _ => ?_))
      | exact ih0 _ _ _ _ _ _ _ _
      | exact impl_AreFlowJobs.mono _ _
      | exact impl_FlowBound.mono _ _
      | exact impl_LeastMakespan.mono _ _
      | exact impl_Makespan.mono _ _ _
      | exact impl_TwoPartOrder.mono _ _
      | exact laws_likeInts.mono _ _ _
      | exact spec_DrawMakespan.mono _ _
      | exact spec_FlowBound.mono _ _
      | exact spec_LeastMakespan.mono _ _
      | exact spec_Makespan.mono _ _ _
      | exact spec_TwoPartOrder.mono _ _
      | exact LeO.none _
      | refine LeO.ite ?_ ?_
      | refine LeO.bind ?_ (fun _ => ?_)
set_option maxHeartbeats 8000000 in
set_option maxRecDepth 100000 in
theorem laws_FnFlow.calls (k : Nat) (A0 : Option Addr) (c0 : Nat) (l0 : List Int) (r : Bool) (w : World) (hT : Aside0 (r = true)) (hr0 : Kd.C (Kd.int .u8) w A0 l0.length l0) (hc0 : l0.length ≤ c0) (h : laws_FnFlow.f k l0 = some r) :
    Calls Try.prog 13 #[.slice A0 l0.length c0] w fun e w' => e = .returned (.bool r) ∧ Below w.heap.size w w' := by
  have HR0 := Aside0.mk hr0
  have HC0 := Aside0.mk hc0
  clear hr0 hc0
  have HB := Aside0.mk (Below.refl w.heap.size w)
  have H : ((laws_big.f l0).bind fun t439 => (if t439 = true then (some true) else ((spec_DrawMakespan.f k l0).bind fun bt440 => ((impl_Makespan.f k bt440.1 bt440.2).bind fun bt446 => ((spec_Makespan.f k bt440.1 bt440.2).bind fun bt448 => ((impl_TwoPartOrder.f k bt440.1).bind fun bt450 => ((spec_TwoPartOrder.f k bt440.1).bind fun bt454 => ((impl_LeastMakespan.f k bt440.1).bind fun bt458 => ((spec_LeastMakespan.f k bt440.1).bind fun bt460 => ((impl_FlowBound.f k bt440.1).bind fun bt462 => ((spec_FlowBound.f k bt440.1).bind fun bt464 => (if bt446.2 = bt448.2 then (if bt446.1 = bt448.1 then (if bt450.2 = bt454.2 then ((laws_likeInts.f k bt450.1 bt454.1).bind fun t466 => (if t466 = true then (if bt458.2 = bt460.2 then (if bt458.1 = bt460.1 then (if bt462.2 = bt464.2 then (if bt462.1 = bt464.1 then ((impl_AreFlowJobs.f k bt440.1).bind fun t467 => (laws_FnFlow.j0 k bt440.1 bt446.1 bt446.2 bt450.1 bt450.2 bt458.1 bt462.1 (t467 != (bt454.2 == 0)))) else (laws_FnFlow.j0 k bt440.1 bt446.1 bt446.2 bt450.1 bt450.2 bt458.1 bt462.1 true)) else (laws_FnFlow.j0 k bt440.1 bt446.1 bt446.2 bt450.1 bt450.2 bt458.1 bt462.1 true)) else (laws_FnFlow.j0 k bt440.1 bt446.1 bt446.2 bt450.1 bt450.2 bt458.1 bt462.1 true)) else (laws_FnFlow.j0 k bt440.1 bt446.1 bt446.2 bt450.1 bt450.2 bt458.1 bt462.1 true)) else (laws_FnFlow.j0 k bt440.1 bt446.1 bt446.2 bt450.1 bt450.2 bt458.1 bt462.1 true))) else (laws_FnFlow.j0 k bt440.1 bt446.1 bt446.2 bt450.1 bt450.2 bt458.1 bt462.1 true)) else (laws_FnFlow.j0 k bt440.1 bt446.1 bt446.2 bt450.1 bt450.2 bt458.1 bt462.1 true)) else (laws_FnFlow.j0 k bt440.1 bt446.1 bt446.2 bt450.1 bt450.2 bt458.1 bt462.1 true))))))))))))) = some r := h
  clear h
  replace H := Option.bind_eq_some_iff.mp H
  obtain ⟨t439, A20, H⟩ := H
  replace H : (if t439 = true then (some true) else ((spec_DrawMakespan.f k l0).bind fun bt440 => ((impl_Makespan.f k bt440.1 bt440.2).bind fun bt446 => ((spec_Makespan.f k bt440.1 bt440.2).bind fun bt448 => ((impl_TwoPartOrder.f k bt440.1).bind fun bt450 => ((spec_TwoPartOrder.f k bt440.1).bind fun bt454 => ((impl_LeastMakespan.f k bt440.1).bind fun bt458 => ((spec_LeastMakespan.f k bt440.1).bind fun bt460 => ((impl_FlowBound.f k bt440.1).bind fun bt462 => ((spec_FlowBound.f k bt440.1).bind fun bt464 => (if bt446.2 = bt448.2 then (if bt446.1 = bt448.1 then (if bt450.2 = bt454.2 then ((laws_likeInts.f k bt450.1 bt454.1).bind fun t466 => (if t466 = true then (if bt458.2 = bt460.2 then (if bt458.1 = bt460.1 then (if bt462.2 = bt464.2 then (if bt462.1 = bt464.1 then ((impl_AreFlowJobs.f k bt440.1).bind fun t467 => (laws_FnFlow.j0 k bt440.1 bt446.1 bt446.2 bt450.1 bt450.2 bt458.1 bt462.1 (t467 != (bt454.2 == 0)))) else (laws_FnFlow.j0 k bt440.1 bt446.1 bt446.2 bt450.1 bt450.2 bt458.1 bt462.1 true)) else (laws_FnFlow.j0 k bt440.1 bt446.1 bt446.2 bt450.1 bt450.2 bt458.1 bt462.1 true)) else (laws_FnFlow.j0 k bt440.1 bt446.1 bt446.2 bt450.1 bt450.2 bt458.1 bt462.1 true)) else (laws_FnFlow.j0 k bt440.1 bt446.1 bt446.2 bt450.1 bt450.2 bt458.1 bt462.1 true)) else (laws_FnFlow.j0 k bt440.1 bt446.1 bt446.2 bt450.1 bt450.2 bt458.1 bt462.1 true))) else (laws_FnFlow.j0 k bt440.1 bt446.1 bt446.2 bt450.1 bt450.2 bt458.1 bt462.1 true)) else (laws_FnFlow.j0 k bt440.1 bt446.1 bt446.2 bt450.1 bt450.2 bt458.1 bt462.1 true)) else (laws_FnFlow.j0 k bt440.1 bt446.1 bt446.2 bt450.1 bt450.2 bt458.1 bt462.1 true)))))))))))) = some r := H
  have A2 := Aside0.mk A20
  clear A20
  by_cases c3 : t439 = true
  · subst c3
    have H1 : (some true) = some r := by rw [if_pos rfl] at H; exact H
    clear H
    have H := H1
    clear H1
    obtain rfl := Option.some.inj H
    go_enter Try.func13, Try.ntmps13
    go_wp2_with (first | ((with_reducible refine gate_callee (f := 33) rfl ?_); refine goesL_ (some 24) rfl rfl Try.func33 (by kernel_rfl) rfl #[.slice A0 l0.length c0] rfl (by (try simp only [List.map_toArray, List.map_cons, List.map_nil]); first | done | rfl | (simp only [List.length_drop, List.length_take]; rfl)) ?_; (with_reducible refine (laws_big.calls _ _ l0 true _ ?side1 ?side2 A2.out).mono ?_); (case side1 => repeat (first | exact HR0.out | (with_reducible refine Kd.C_alloc ?_ _) | (with_reducible refine Kd.C_drewN ?_ _) | (with_reducible refine Kd.C_drew ?_))); (case side2 => exact HC0.out); rintro e w' ⟨rfl, ⟨nd, rfl⟩⟩; refine ⟨_, rfl, ?_⟩))
    go_ret
    exact ⟨by first | rfl | (simp [errW_none, errW_some] <;> rfl) | (simp [*, errW_none, errW_some] <;> rfl), by repeat (first | (with_reducible first | exact HB.out | apply below_alloc | apply pw_below_drewN | apply below_drew1) | exact HB.out)⟩
  · replace c3 := Bool.eq_false_iff.mpr c3
    subst c3
    have H1 : ((spec_DrawMakespan.f k l0).bind fun bt440 => ((impl_Makespan.f k bt440.1 bt440.2).bind fun bt446 => ((spec_Makespan.f k bt440.1 bt440.2).bind fun bt448 => ((impl_TwoPartOrder.f k bt440.1).bind fun bt450 => ((spec_TwoPartOrder.f k bt440.1).bind fun bt454 => ((impl_LeastMakespan.f k bt440.1).bind fun bt458 => ((spec_LeastMakespan.f k bt440.1).bind fun bt460 => ((impl_FlowBound.f k bt440.1).bind fun bt462 => ((spec_FlowBound.f k bt440.1).bind fun bt464 => (if bt446.2 = bt448.2 then (if bt446.1 = bt448.1 then (if bt450.2 = bt454.2 then ((laws_likeInts.f k bt450.1 bt454.1).bind fun t466 => (if t466 = true then (if bt458.2 = bt460.2 then (if bt458.1 = bt460.1 then (if bt462.2 = bt464.2 then (if bt462.1 = bt464.1 then ((impl_AreFlowJobs.f k bt440.1).bind fun t467 => (laws_FnFlow.j0 k bt440.1 bt446.1 bt446.2 bt450.1 bt450.2 bt458.1 bt462.1 (t467 != (bt454.2 == 0)))) else (laws_FnFlow.j0 k bt440.1 bt446.1 bt446.2 bt450.1 bt450.2 bt458.1 bt462.1 true)) else (laws_FnFlow.j0 k bt440.1 bt446.1 bt446.2 bt450.1 bt450.2 bt458.1 bt462.1 true)) else (laws_FnFlow.j0 k bt440.1 bt446.1 bt446.2 bt450.1 bt450.2 bt458.1 bt462.1 true)) else (laws_FnFlow.j0 k bt440.1 bt446.1 bt446.2 bt450.1 bt450.2 bt458.1 bt462.1 true)) else (laws_FnFlow.j0 k bt440.1 bt446.1 bt446.2 bt450.1 bt450.2 bt458.1 bt462.1 true))) else (laws_FnFlow.j0 k bt440.1 bt446.1 bt446.2 bt450.1 bt450.2 bt458.1 bt462.1 true)) else (laws_FnFlow.j0 k bt440.1 bt446.1 bt446.2 bt450.1 bt450.2 bt458.1 bt462.1 true)) else (laws_FnFlow.j0 k bt440.1 bt446.1 bt446.2 bt450.1 bt450.2 bt458.1 bt462.1 true))))))))))) = some r := by rw [if_neg (show ¬ (false = true) by decide)] at H; exact H
    clear H
    have H := H1
    clear H1
    replace H := Option.bind_eq_some_iff.mp H
    obtain ⟨⟨t440, t441⟩, A40, H⟩ := H
    replace H : ((impl_Makespan.f k t440 t441).bind fun bt446 => ((spec_Makespan.f k t440 t441).bind fun bt448 => ((impl_TwoPartOrder.f k t440).bind fun bt450 => ((spec_TwoPartOrder.f k t440).bind fun bt454 => ((impl_LeastMakespan.f k t440).bind fun bt458 => ((spec_LeastMakespan.f k t440).bind fun bt460 => ((impl_FlowBound.f k t440).bind fun bt462 => ((spec_FlowBound.f k t440).bind fun bt464 => (if bt446.2 = bt448.2 then (if bt446.1 = bt448.1 then (if bt450.2 = bt454.2 then ((laws_likeInts.f k bt450.1 bt454.1).bind fun t466 => (if t466 = true then (if bt458.2 = bt460.2 then (if bt458.1 = bt460.1 then (if bt462.2 = bt464.2 then (if bt462.1 = bt464.1 then ((impl_AreFlowJobs.f k t440).bind fun t467 => (laws_FnFlow.j0 k t440 bt446.1 bt446.2 bt450.1 bt450.2 bt458.1 bt462.1 (t467 != (bt454.2 == 0)))) else (laws_FnFlow.j0 k t440 bt446.1 bt446.2 bt450.1 bt450.2 bt458.1 bt462.1 true)) else (laws_FnFlow.j0 k t440 bt446.1 bt446.2 bt450.1 bt450.2 bt458.1 bt462.1 true)) else (laws_FnFlow.j0 k t440 bt446.1 bt446.2 bt450.1 bt450.2 bt458.1 bt462.1 true)) else (laws_FnFlow.j0 k t440 bt446.1 bt446.2 bt450.1 bt450.2 bt458.1 bt462.1 true)) else (laws_FnFlow.j0 k t440 bt446.1 bt446.2 bt450.1 bt450.2 bt458.1 bt462.1 true))) else (laws_FnFlow.j0 k t440 bt446.1 bt446.2 bt450.1 bt450.2 bt458.1 bt462.1 true)) else (laws_FnFlow.j0 k t440 bt446.1 bt446.2 bt450.1 bt450.2 bt458.1 bt462.1 true)) else (laws_FnFlow.j0 k t440 bt446.1 bt446.2 bt450.1 bt450.2 bt458.1 bt462.1 true)))))))))) = some r := H
    have A4 := Aside0.mk A40
    clear A40
    replace H := Option.bind_eq_some_iff.mp H
    obtain ⟨⟨t446, t447⟩, A50, H⟩ := H
    replace H : ((spec_Makespan.f k t440 t441).bind fun bt448 => ((impl_TwoPartOrder.f k t440).bind fun bt450 => ((spec_TwoPartOrder.f k t440).bind fun bt454 => ((impl_LeastMakespan.f k t440).bind fun bt458 => ((spec_LeastMakespan.f k t440).bind fun bt460 => ((impl_FlowBound.f k t440).bind fun bt462 => ((spec_FlowBound.f k t440).bind fun bt464 => (if t447 = bt448.2 then (if t446 = bt448.1 then (if bt450.2 = bt454.2 then ((laws_likeInts.f k bt450.1 bt454.1).bind fun t466 => (if t466 = true then (if bt458.2 = bt460.2 then (if bt458.1 = bt460.1 then (if bt462.2 = bt464.2 then (if bt462.1 = bt464.1 then ((impl_AreFlowJobs.f k t440).bind fun t467 => (laws_FnFlow.j0 k t440 t446 t447 bt450.1 bt450.2 bt458.1 bt462.1 (t467 != (bt454.2 == 0)))) else (laws_FnFlow.j0 k t440 t446 t447 bt450.1 bt450.2 bt458.1 bt462.1 true)) else (laws_FnFlow.j0 k t440 t446 t447 bt450.1 bt450.2 bt458.1 bt462.1 true)) else (laws_FnFlow.j0 k t440 t446 t447 bt450.1 bt450.2 bt458.1 bt462.1 true)) else (laws_FnFlow.j0 k t440 t446 t447 bt450.1 bt450.2 bt458.1 bt462.1 true)) else (laws_FnFlow.j0 k t440 t446 t447 bt450.1 bt450.2 bt458.1 bt462.1 true))) else (laws_FnFlow.j0 k t440 t446 t447 bt450.1 bt450.2 bt458.1 bt462.1 true)) else (laws_FnFlow.j0 k t440 t446 t447 bt450.1 bt450.2 bt458.1 bt462.1 true)) else (laws_FnFlow.j0 k t440 t446 t447 bt450.1 bt450.2 bt458.1 bt462.1 true))))))))) = some r := H
    have A5 := Aside0.mk A50
    clear A50
    replace H := Option.bind_eq_some_iff.mp H
    obtain ⟨⟨t448, t449⟩, A60, H⟩ := H
    replace H : ((impl_TwoPartOrder.f k t440).bind fun bt450 => ((spec_TwoPartOrder.f k t440).bind fun bt454 => ((impl_LeastMakespan.f k t440).bind fun bt458 => ((spec_LeastMakespan.f k t440).bind fun bt460 => ((impl_FlowBound.f k t440).bind fun bt462 => ((spec_FlowBound.f k t440).bind fun bt464 => (if t447 = t449 then (if t446 = t448 then (if bt450.2 = bt454.2 then ((laws_likeInts.f k bt450.1 bt454.1).bind fun t466 => (if t466 = true then (if bt458.2 = bt460.2 then (if bt458.1 = bt460.1 then (if bt462.2 = bt464.2 then (if bt462.1 = bt464.1 then ((impl_AreFlowJobs.f k t440).bind fun t467 => (laws_FnFlow.j0 k t440 t446 t447 bt450.1 bt450.2 bt458.1 bt462.1 (t467 != (bt454.2 == 0)))) else (laws_FnFlow.j0 k t440 t446 t447 bt450.1 bt450.2 bt458.1 bt462.1 true)) else (laws_FnFlow.j0 k t440 t446 t447 bt450.1 bt450.2 bt458.1 bt462.1 true)) else (laws_FnFlow.j0 k t440 t446 t447 bt450.1 bt450.2 bt458.1 bt462.1 true)) else (laws_FnFlow.j0 k t440 t446 t447 bt450.1 bt450.2 bt458.1 bt462.1 true)) else (laws_FnFlow.j0 k t440 t446 t447 bt450.1 bt450.2 bt458.1 bt462.1 true))) else (laws_FnFlow.j0 k t440 t446 t447 bt450.1 bt450.2 bt458.1 bt462.1 true)) else (laws_FnFlow.j0 k t440 t446 t447 bt450.1 bt450.2 bt458.1 bt462.1 true)) else (laws_FnFlow.j0 k t440 t446 t447 bt450.1 bt450.2 bt458.1 bt462.1 true)))))))) = some r := H
    have A6 := Aside0.mk A60
    clear A60
    replace H := Option.bind_eq_some_iff.mp H
    obtain ⟨⟨t450, t451⟩, A70, H⟩ := H
    replace H : ((spec_TwoPartOrder.f k t440).bind fun bt454 => ((impl_LeastMakespan.f k t440).bind fun bt458 => ((spec_LeastMakespan.f k t440).bind fun bt460 => ((impl_FlowBound.f k t440).bind fun bt462 => ((spec_FlowBound.f k t440).bind fun bt464 => (if t447 = t449 then (if t446 = t448 then (if t451 = bt454.2 then ((laws_likeInts.f k t450 bt454.1).bind fun t466 => (if t466 = true then (if bt458.2 = bt460.2 then (if bt458.1 = bt460.1 then (if bt462.2 = bt464.2 then (if bt462.1 = bt464.1 then ((impl_AreFlowJobs.f k t440).bind fun t467 => (laws_FnFlow.j0 k t440 t446 t447 t450 t451 bt458.1 bt462.1 (t467 != (bt454.2 == 0)))) else (laws_FnFlow.j0 k t440 t446 t447 t450 t451 bt458.1 bt462.1 true)) else (laws_FnFlow.j0 k t440 t446 t447 t450 t451 bt458.1 bt462.1 true)) else (laws_FnFlow.j0 k t440 t446 t447 t450 t451 bt458.1 bt462.1 true)) else (laws_FnFlow.j0 k t440 t446 t447 t450 t451 bt458.1 bt462.1 true)) else (laws_FnFlow.j0 k t440 t446 t447 t450 t451 bt458.1 bt462.1 true))) else (laws_FnFlow.j0 k t440 t446 t447 t450 t451 bt458.1 bt462.1 true)) else (laws_FnFlow.j0 k t440 t446 t447 t450 t451 bt458.1 bt462.1 true)) else (laws_FnFlow.j0 k t440 t446 t447 t450 t451 bt458.1 bt462.1 true))))))) = some r := H
    have A7 := Aside0.mk A70
    clear A70
    replace H := Option.bind_eq_some_iff.mp H
    obtain ⟨⟨t454, t455⟩, A80, H⟩ := H
    replace H : ((impl_LeastMakespan.f k t440).bind fun bt458 => ((spec_LeastMakespan.f k t440).bind fun bt460 => ((impl_FlowBound.f k t440).bind fun bt462 => ((spec_FlowBound.f k t440).bind fun bt464 => (if t447 = t449 then (if t446 = t448 then (if t451 = t455 then ((laws_likeInts.f k t450 t454).bind fun t466 => (if t466 = true then (if bt458.2 = bt460.2 then (if bt458.1 = bt460.1 then (if bt462.2 = bt464.2 then (if bt462.1 = bt464.1 then ((impl_AreFlowJobs.f k t440).bind fun t467 => (laws_FnFlow.j0 k t440 t446 t447 t450 t451 bt458.1 bt462.1 (t467 != (t455 == 0)))) else (laws_FnFlow.j0 k t440 t446 t447 t450 t451 bt458.1 bt462.1 true)) else (laws_FnFlow.j0 k t440 t446 t447 t450 t451 bt458.1 bt462.1 true)) else (laws_FnFlow.j0 k t440 t446 t447 t450 t451 bt458.1 bt462.1 true)) else (laws_FnFlow.j0 k t440 t446 t447 t450 t451 bt458.1 bt462.1 true)) else (laws_FnFlow.j0 k t440 t446 t447 t450 t451 bt458.1 bt462.1 true))) else (laws_FnFlow.j0 k t440 t446 t447 t450 t451 bt458.1 bt462.1 true)) else (laws_FnFlow.j0 k t440 t446 t447 t450 t451 bt458.1 bt462.1 true)) else (laws_FnFlow.j0 k t440 t446 t447 t450 t451 bt458.1 bt462.1 true)))))) = some r := H
    have A8 := Aside0.mk A80
    clear A80
    replace H := Option.bind_eq_some_iff.mp H
    obtain ⟨⟨t458, t459⟩, A90, H⟩ := H
    replace H : ((spec_LeastMakespan.f k t440).bind fun bt460 => ((impl_FlowBound.f k t440).bind fun bt462 => ((spec_FlowBound.f k t440).bind fun bt464 => (if t447 = t449 then (if t446 = t448 then (if t451 = t455 then ((laws_likeInts.f k t450 t454).bind fun t466 => (if t466 = true then (if t459 = bt460.2 then (if t458 = bt460.1 then (if bt462.2 = bt464.2 then (if bt462.1 = bt464.1 then ((impl_AreFlowJobs.f k t440).bind fun t467 => (laws_FnFlow.j0 k t440 t446 t447 t450 t451 t458 bt462.1 (t467 != (t455 == 0)))) else (laws_FnFlow.j0 k t440 t446 t447 t450 t451 t458 bt462.1 true)) else (laws_FnFlow.j0 k t440 t446 t447 t450 t451 t458 bt462.1 true)) else (laws_FnFlow.j0 k t440 t446 t447 t450 t451 t458 bt462.1 true)) else (laws_FnFlow.j0 k t440 t446 t447 t450 t451 t458 bt462.1 true)) else (laws_FnFlow.j0 k t440 t446 t447 t450 t451 t458 bt462.1 true))) else (laws_FnFlow.j0 k t440 t446 t447 t450 t451 t458 bt462.1 true)) else (laws_FnFlow.j0 k t440 t446 t447 t450 t451 t458 bt462.1 true)) else (laws_FnFlow.j0 k t440 t446 t447 t450 t451 t458 bt462.1 true))))) = some r := H
    have A9 := Aside0.mk A90
    clear A90
    replace H := Option.bind_eq_some_iff.mp H
    obtain ⟨⟨t460, t461⟩, A100, H⟩ := H
    replace H : ((impl_FlowBound.f k t440).bind fun bt462 => ((spec_FlowBound.f k t440).bind fun bt464 => (if t447 = t449 then (if t446 = t448 then (if t451 = t455 then ((laws_likeInts.f k t450 t454).bind fun t466 => (if t466 = true then (if t459 = t461 then (if t458 = t460 then (if bt462.2 = bt464.2 then (if bt462.1 = bt464.1 then ((impl_AreFlowJobs.f k t440).bind fun t467 => (laws_FnFlow.j0 k t440 t446 t447 t450 t451 t458 bt462.1 (t467 != (t455 == 0)))) else (laws_FnFlow.j0 k t440 t446 t447 t450 t451 t458 bt462.1 true)) else (laws_FnFlow.j0 k t440 t446 t447 t450 t451 t458 bt462.1 true)) else (laws_FnFlow.j0 k t440 t446 t447 t450 t451 t458 bt462.1 true)) else (laws_FnFlow.j0 k t440 t446 t447 t450 t451 t458 bt462.1 true)) else (laws_FnFlow.j0 k t440 t446 t447 t450 t451 t458 bt462.1 true))) else (laws_FnFlow.j0 k t440 t446 t447 t450 t451 t458 bt462.1 true)) else (laws_FnFlow.j0 k t440 t446 t447 t450 t451 t458 bt462.1 true)) else (laws_FnFlow.j0 k t440 t446 t447 t450 t451 t458 bt462.1 true)))) = some r := H
    have A10 := Aside0.mk A100
    clear A100
    replace H := Option.bind_eq_some_iff.mp H
    obtain ⟨⟨t462, t463⟩, A110, H⟩ := H
    replace H : ((spec_FlowBound.f k t440).bind fun bt464 => (if t447 = t449 then (if t446 = t448 then (if t451 = t455 then ((laws_likeInts.f k t450 t454).bind fun t466 => (if t466 = true then (if t459 = t461 then (if t458 = t460 then (if t463 = bt464.2 then (if t462 = bt464.1 then ((impl_AreFlowJobs.f k t440).bind fun t467 => (laws_FnFlow.j0 k t440 t446 t447 t450 t451 t458 t462 (t467 != (t455 == 0)))) else (laws_FnFlow.j0 k t440 t446 t447 t450 t451 t458 t462 true)) else (laws_FnFlow.j0 k t440 t446 t447 t450 t451 t458 t462 true)) else (laws_FnFlow.j0 k t440 t446 t447 t450 t451 t458 t462 true)) else (laws_FnFlow.j0 k t440 t446 t447 t450 t451 t458 t462 true)) else (laws_FnFlow.j0 k t440 t446 t447 t450 t451 t458 t462 true))) else (laws_FnFlow.j0 k t440 t446 t447 t450 t451 t458 t462 true)) else (laws_FnFlow.j0 k t440 t446 t447 t450 t451 t458 t462 true)) else (laws_FnFlow.j0 k t440 t446 t447 t450 t451 t458 t462 true))) = some r := H
    have A11 := Aside0.mk A110
    clear A110
    replace H := Option.bind_eq_some_iff.mp H
    obtain ⟨⟨t464, t465⟩, A120, H⟩ := H
    replace H : (if t447 = t449 then (if t446 = t448 then (if t451 = t455 then ((laws_likeInts.f k t450 t454).bind fun t466 => (if t466 = true then (if t459 = t461 then (if t458 = t460 then (if t463 = t465 then (if t462 = t464 then ((impl_AreFlowJobs.f k t440).bind fun t467 => (laws_FnFlow.j0 k t440 t446 t447 t450 t451 t458 t462 (t467 != (t455 == 0)))) else (laws_FnFlow.j0 k t440 t446 t447 t450 t451 t458 t462 true)) else (laws_FnFlow.j0 k t440 t446 t447 t450 t451 t458 t462 true)) else (laws_FnFlow.j0 k t440 t446 t447 t450 t451 t458 t462 true)) else (laws_FnFlow.j0 k t440 t446 t447 t450 t451 t458 t462 true)) else (laws_FnFlow.j0 k t440 t446 t447 t450 t451 t458 t462 true))) else (laws_FnFlow.j0 k t440 t446 t447 t450 t451 t458 t462 true)) else (laws_FnFlow.j0 k t440 t446 t447 t450 t451 t458 t462 true)) else (laws_FnFlow.j0 k t440 t446 t447 t450 t451 t458 t462 true)) = some r := H
    have A12 := Aside0.mk A120
    clear A120
    have HC13 := Aside0.mk H
    clear H
    go_enter Try.func13, Try.ntmps13
    go_upto_region 12 with (first | ((with_reducible refine gate_callee (f := 33) rfl ?_); refine goesL_ (some 24) rfl rfl Try.func33 (by kernel_rfl) rfl #[.slice A0 l0.length c0] rfl (by (try simp only [List.map_toArray, List.map_cons, List.map_nil]); first | done | rfl | (simp only [List.length_drop, List.length_take]; rfl)) ?_; (with_reducible refine (laws_big.calls _ _ l0 false _ ?side1 ?side2 A2.out).mono ?_); (case side1 => repeat (first | exact HR0.out | (with_reducible refine Kd.C_alloc ?_ _) | (with_reducible refine Kd.C_drewN ?_ _) | (with_reducible refine Kd.C_drew ?_))); (case side2 => exact HC0.out); rintro e w' ⟨rfl, ⟨nd, rfl⟩⟩; refine ⟨_, rfl, ?_⟩) | ((with_reducible refine gate_callee (f := 92) rfl ?_); refine goesL_ (some 27) rfl rfl Try.func92 (by kernel_rfl) rfl #[.slice A0 l0.length c0] rfl (by (try simp only [List.map_toArray, List.map_cons, List.map_nil]); first | done | rfl | (simp only [List.length_drop, List.length_take]; rfl)) ?_; (with_reducible refine (spec_DrawMakespan.calls k _ _ l0 t440 t441 _ ?side1 ?side2 A4.out).mono ?_); (case side1 => repeat (first | exact HR0.out | (with_reducible refine Kd.C_alloc ?_ _) | (with_reducible refine Kd.C_drewN ?_ _) | (with_reducible refine Kd.C_drew ?_))); (case side2 => exact HC0.out); rintro e w14 ⟨v442, v444, rfl, ho0, ho1, hb⟩; refine ⟨_, rfl, ?_⟩; have n0_ := Aside0.mk (Kd.R_lower ho0 (below_size (by repeat (first | (with_reducible first | exact HB.out | apply below_alloc | apply pw_below_drewN | apply below_drew1) | exact HB.out)))); have n1_ := Aside0.mk (Kd.R_lower ho1 (below_size (by repeat (first | (with_reducible first | exact HB.out | apply below_alloc | apply pw_below_drewN | apply below_drew1) | exact HB.out)))); have n2_ := Aside0.mk (below_step (by repeat (first | (with_reducible first | exact HB.out | apply below_alloc | apply pw_below_drewN | apply below_drew1) | exact HB.out)) hb); clear HB; have HO443 := n0_; have HO445 := n1_; have HB := n2_; clear n0_ n1_ n2_; (try clear hb); (try clear hb2); (try clear hk); (try clear hi); (try clear ho0); (try clear ho1); obtain ⟨Ao15, co15, eo15⟩ := Kd.R_slice HO443.out; subst eo15; obtain ⟨Ao16, co16, eo16⟩ := Kd.R_slice HO445.out; subst eo16) | ((with_reducible refine gate_callee (f := 51) rfl ?_); refine goesL_ (some 33) rfl rfl Try.func51 (by kernel_rfl) rfl #[.slice Ao15 t440.length co15, .slice Ao16 t441.length co16] rfl (by (try simp only [List.map_toArray, List.map_cons, List.map_nil]); first | done | rfl | (simp only [List.length_drop, List.length_take]; rfl)) ?_; (with_reducible refine (impl_Makespan.calls k _ _ t440 _ _ t441 t446 t447 _ ?side1 ?side2 ?side3 ?side4 A5.out).mono ?_); (case side1 => repeat (first | exact (Kd.R_reads' HO443.out).2.2 | (with_reducible refine Kd.C_alloc ?_ _) | (with_reducible refine Kd.C_drewN ?_ _) | (with_reducible refine Kd.C_drew ?_))); (case side2 => exact (Kd.R_reads' HO443.out).2.1); (case side3 => repeat (first | exact (Kd.R_reads' HO445.out).2.2 | (with_reducible refine Kd.C_alloc ?_ _) | (with_reducible refine Kd.C_drewN ?_ _) | (with_reducible refine Kd.C_drew ?_))); (case side4 => exact (Kd.R_reads' HO445.out).2.1); rintro e w17 ⟨rfl, hb⟩; refine ⟨_, rfl, ?_⟩; have n0_ := Aside0.mk (Kd.R_below (by (with_reducible repeat (first | apply Kd.R_alloc | apply Kd.R_drewN | apply Kd.R_drew)); exact HO443.out) hb); have n1_ := Aside0.mk (Kd.R_below (by (with_reducible repeat (first | apply Kd.R_alloc | apply Kd.R_drewN | apply Kd.R_drew)); exact HO445.out) hb); have n2_ := Aside0.mk (below_step (by repeat (first | (with_reducible first | exact HB.out | apply below_alloc | apply pw_below_drewN | apply below_drew1) | exact HB.out)) hb); clear HO443; clear HO445; clear HB; have HO443 := n0_; have HO445 := n1_; have HB := n2_; clear n0_ n1_ n2_; (try clear hb); (try clear hb2); (try clear hk); (try clear hi)) | ((with_reducible refine gate_callee (f := 93) rfl ?_); refine goesL_ (some 39) rfl rfl Try.func93 (by kernel_rfl) rfl #[.slice Ao15 t440.length co15, .slice Ao16 t441.length co16] rfl (by (try simp only [List.map_toArray, List.map_cons, List.map_nil]); first | done | rfl | (simp only [List.length_drop, List.length_take]; rfl)) ?_; (with_reducible refine (spec_Makespan.calls k _ _ t440 _ _ t441 t448 t449 _ ?side1 ?side2 ?side3 ?side4 A6.out).mono ?_); (case side1 => repeat (first | exact (Kd.R_reads' HO443.out).2.2 | (with_reducible refine Kd.C_alloc ?_ _) | (with_reducible refine Kd.C_drewN ?_ _) | (with_reducible refine Kd.C_drew ?_))); (case side2 => exact (Kd.R_reads' HO443.out).2.1); (case side3 => repeat (first | exact (Kd.R_reads' HO445.out).2.2 | (with_reducible refine Kd.C_alloc ?_ _) | (with_reducible refine Kd.C_drewN ?_ _) | (with_reducible refine Kd.C_drew ?_))); (case side4 => exact (Kd.R_reads' HO445.out).2.1); rintro e w18 ⟨rfl, hb⟩; refine ⟨_, rfl, ?_⟩; have n0_ := Aside0.mk (Kd.R_below (by (with_reducible repeat (first | apply Kd.R_alloc | apply Kd.R_drewN | apply Kd.R_drew)); exact HO443.out) hb); have n1_ := Aside0.mk (Kd.R_below (by (with_reducible repeat (first | apply Kd.R_alloc | apply Kd.R_drewN | apply Kd.R_drew)); exact HO445.out) hb); have n2_ := Aside0.mk (below_step (by repeat (first | (with_reducible first | exact HB.out | apply below_alloc | apply pw_below_drewN | apply below_drew1) | exact HB.out)) hb); clear HO443; clear HO445; clear HB; have HO443 := n0_; have HO445 := n1_; have HB := n2_; clear n0_ n1_ n2_; (try clear hb); (try clear hb2); (try clear hk); (try clear hi)) | ((with_reducible refine gate_callee (f := 89) rfl ?_); refine goesL_ (some 44) rfl rfl Try.func89 (by kernel_rfl) rfl #[.slice Ao15 t440.length co15] rfl (by (try simp only [List.map_toArray, List.map_cons, List.map_nil]); first | done | rfl | (simp only [List.length_drop, List.length_take]; rfl)) ?_; (with_reducible refine (impl_TwoPartOrder.calls k _ _ t440 t450 t451 _ ?side1 ?side2 A7.out).mono ?_); (case side1 => repeat (first | exact (Kd.R_reads' HO443.out).2.2 | (with_reducible refine Kd.C_alloc ?_ _) | (with_reducible refine Kd.C_drewN ?_ _) | (with_reducible refine Kd.C_drew ?_))); (case side2 => exact (Kd.R_reads' HO443.out).2.1); rintro e w19 ⟨v452, rfl, ho0, hb⟩; refine ⟨_, rfl, ?_⟩; have n0_ := Aside0.mk (Kd.R_below (by (with_reducible repeat (first | apply Kd.R_alloc | apply Kd.R_drewN | apply Kd.R_drew)); exact HO443.out) hb); have n1_ := Aside0.mk (Kd.R_elder' (by (with_reducible repeat (first | apply Kd.R_alloc | apply Kd.R_drewN | apply Kd.R_drew)); exact HO445.out) (Kd.R_base ho0) hb); have n2_ := Aside0.mk (Kd.R_lower (Kd.R_new' ho0 (Kd.R_lt (by (with_reducible repeat (first | apply Kd.R_alloc | apply Kd.R_drewN | apply Kd.R_drew)); exact HO445.out))) (below_size (by repeat (first | (with_reducible first | exact HB.out | apply below_alloc | apply pw_below_drewN | apply below_drew1) | exact HB.out)))); have n3_ := Aside0.mk (below_step (by repeat (first | (with_reducible first | exact HB.out | apply below_alloc | apply pw_below_drewN | apply below_drew1) | exact HB.out)) hb); clear HO443; clear HO445; clear HB; have HO443 := n0_; have HO445 := n1_; have HO453 := n2_; have HB := n3_; clear n0_ n1_ n2_ n3_; (try clear hb); (try clear hb2); (try clear hk); (try clear hi); (try clear ho0)) | ((with_reducible refine gate_callee (f := 88) rfl ?_); refine goesL_ (some 49) rfl rfl Try.func88 (by kernel_rfl) rfl #[.slice Ao15 t440.length co15] rfl (by (try simp only [List.map_toArray, List.map_cons, List.map_nil]); first | done | rfl | (simp only [List.length_drop, List.length_take]; rfl)) ?_; (with_reducible refine (spec_TwoPartOrder.calls k _ _ t440 t454 t455 _ ?side1 ?side2 A8.out).mono ?_); (case side1 => repeat (first | exact (Kd.R_reads' HO443.out).2.2 | (with_reducible refine Kd.C_alloc ?_ _) | (with_reducible refine Kd.C_drewN ?_ _) | (with_reducible refine Kd.C_drew ?_))); (case side2 => exact (Kd.R_reads' HO443.out).2.1); rintro e w20 ⟨v456, rfl, ho0, hb⟩; refine ⟨_, rfl, ?_⟩; have n0_ := Aside0.mk (Kd.R_below (by (with_reducible repeat (first | apply Kd.R_alloc | apply Kd.R_drewN | apply Kd.R_drew)); exact HO443.out) hb); have n1_ := Aside0.mk (Kd.R_elder' (by (with_reducible repeat (first | apply Kd.R_alloc | apply Kd.R_drewN | apply Kd.R_drew)); exact HO445.out) (Kd.R_base ho0) hb); have n2_ := Aside0.mk (Kd.R_elder' (by (with_reducible repeat (first | apply Kd.R_alloc | apply Kd.R_drewN | apply Kd.R_drew)); exact HO453.out) (Kd.R_base ho0) hb); have n3_ := Aside0.mk (Kd.R_lower (Kd.R_new' (Kd.R_new' ho0 (Kd.R_lt (by (with_reducible repeat (first | apply Kd.R_alloc | apply Kd.R_drewN | apply Kd.R_drew)); exact HO445.out))) (Kd.R_lt (by (with_reducible repeat (first | apply Kd.R_alloc | apply Kd.R_drewN | apply Kd.R_drew)); exact HO453.out))) (below_size (by repeat (first | (with_reducible first | exact HB.out | apply below_alloc | apply pw_below_drewN | apply below_drew1) | exact HB.out)))); have n4_ := Aside0.mk (below_step (by repeat (first | (with_reducible first | exact HB.out | apply below_alloc | apply pw_below_drewN | apply below_drew1) | exact HB.out)) hb); clear HO443; clear HO445; clear HO453; clear HB; have HO443 := n0_; have HO445 := n1_; have HO453 := n2_; have HO457 := n3_; have HB := n4_; clear n0_ n1_ n2_ n3_ n4_; (try clear hb); (try clear hb2); (try clear hk); (try clear hi); (try clear ho0)) | ((with_reducible refine gate_callee (f := 87) rfl ?_); refine goesL_ (some 54) rfl rfl Try.func87 (by kernel_rfl) rfl #[.slice Ao15 t440.length co15] rfl (by (try simp only [List.map_toArray, List.map_cons, List.map_nil]); first | done | rfl | (simp only [List.length_drop, List.length_take]; rfl)) ?_; (with_reducible refine (impl_LeastMakespan.calls k _ _ t440 t458 t459 _ ?side1 ?side2 A9.out).mono ?_); (case side1 => repeat (first | exact (Kd.R_reads' HO443.out).2.2 | (with_reducible refine Kd.C_alloc ?_ _) | (with_reducible refine Kd.C_drewN ?_ _) | (with_reducible refine Kd.C_drew ?_))); (case side2 => exact (Kd.R_reads' HO443.out).2.1); rintro e w21 ⟨rfl, hb⟩; refine ⟨_, rfl, ?_⟩; have n0_ := Aside0.mk (Kd.R_below (by (with_reducible repeat (first | apply Kd.R_alloc | apply Kd.R_drewN | apply Kd.R_drew)); exact HO443.out) hb); have n1_ := Aside0.mk (Kd.R_below (by (with_reducible repeat (first | apply Kd.R_alloc | apply Kd.R_drewN | apply Kd.R_drew)); exact HO445.out) hb); have n2_ := Aside0.mk (Kd.R_below (by (with_reducible repeat (first | apply Kd.R_alloc | apply Kd.R_drewN | apply Kd.R_drew)); exact HO453.out) hb); have n3_ := Aside0.mk (Kd.R_below (by (with_reducible repeat (first | apply Kd.R_alloc | apply Kd.R_drewN | apply Kd.R_drew)); exact HO457.out) hb); have n4_ := Aside0.mk (below_step (by repeat (first | (with_reducible first | exact HB.out | apply below_alloc | apply pw_below_drewN | apply below_drew1) | exact HB.out)) hb); clear HO443; clear HO445; clear HO453; clear HO457; clear HB; have HO443 := n0_; have HO445 := n1_; have HO453 := n2_; have HO457 := n3_; have HB := n4_; clear n0_ n1_ n2_ n3_ n4_; (try clear hb); (try clear hb2); (try clear hk); (try clear hi)) | ((with_reducible refine gate_callee (f := 86) rfl ?_); refine goesL_ (some 59) rfl rfl Try.func86 (by kernel_rfl) rfl #[.slice Ao15 t440.length co15] rfl (by (try simp only [List.map_toArray, List.map_cons, List.map_nil]); first | done | rfl | (simp only [List.length_drop, List.length_take]; rfl)) ?_; (with_reducible refine (spec_LeastMakespan.calls k _ _ t440 t460 t461 _ ?side1 ?side2 A10.out).mono ?_); (case side1 => repeat (first | exact (Kd.R_reads' HO443.out).2.2 | (with_reducible refine Kd.C_alloc ?_ _) | (with_reducible refine Kd.C_drewN ?_ _) | (with_reducible refine Kd.C_drew ?_))); (case side2 => exact (Kd.R_reads' HO443.out).2.1); rintro e w22 ⟨rfl, hb⟩; refine ⟨_, rfl, ?_⟩; have n0_ := Aside0.mk (Kd.R_below (by (with_reducible repeat (first | apply Kd.R_alloc | apply Kd.R_drewN | apply Kd.R_drew)); exact HO443.out) hb); have n1_ := Aside0.mk (Kd.R_below (by (with_reducible repeat (first | apply Kd.R_alloc | apply Kd.R_drewN | apply Kd.R_drew)); exact HO445.out) hb); have n2_ := Aside0.mk (Kd.R_below (by (with_reducible repeat (first | apply Kd.R_alloc | apply Kd.R_drewN | apply Kd.R_drew)); exact HO453.out) hb); have n3_ := Aside0.mk (Kd.R_below (by (with_reducible repeat (first | apply Kd.R_alloc | apply Kd.R_drewN | apply Kd.R_drew)); exact HO457.out) hb); have n4_ := Aside0.mk (below_step (by repeat (first | (with_reducible first | exact HB.out | apply below_alloc | apply pw_below_drewN | apply below_drew1) | exact HB.out)) hb); clear HO443; clear HO445; clear HO453; clear HO457; clear HB; have HO443 := n0_; have HO445 := n1_; have HO453 := n2_; have HO457 := n3_; have HB := n4_; clear n0_ n1_ n2_ n3_ n4_; (try clear hb); (try clear hb2); (try clear hk); (try clear hi)) | ((with_reducible refine gate_callee (f := 94) rfl ?_); refine goesL_ (some 64) rfl rfl Try.func94 (by kernel_rfl) rfl #[.slice Ao15 t440.length co15] rfl (by (try simp only [List.map_toArray, List.map_cons, List.map_nil]); first | done | rfl | (simp only [List.length_drop, List.length_take]; rfl)) ?_; (with_reducible refine (impl_FlowBound.calls k _ _ t440 t462 t463 _ ?side1 ?side2 A11.out).mono ?_); (case side1 => repeat (first | exact (Kd.R_reads' HO443.out).2.2 | (with_reducible refine Kd.C_alloc ?_ _) | (with_reducible refine Kd.C_drewN ?_ _) | (with_reducible refine Kd.C_drew ?_))); (case side2 => exact (Kd.R_reads' HO443.out).2.1); rintro e w23 ⟨rfl, hb⟩; refine ⟨_, rfl, ?_⟩; have n0_ := Aside0.mk (Kd.R_below (by (with_reducible repeat (first | apply Kd.R_alloc | apply Kd.R_drewN | apply Kd.R_drew)); exact HO443.out) hb); have n1_ := Aside0.mk (Kd.R_below (by (with_reducible repeat (first | apply Kd.R_alloc | apply Kd.R_drewN | apply Kd.R_drew)); exact HO445.out) hb); have n2_ := Aside0.mk (Kd.R_below (by (with_reducible repeat (first | apply Kd.R_alloc | apply Kd.R_drewN | apply Kd.R_drew)); exact HO453.out) hb); have n3_ := Aside0.mk (Kd.R_below (by (with_reducible repeat (first | apply Kd.R_alloc | apply Kd.R_drewN | apply Kd.R_drew)); exact HO457.out) hb); have n4_ := Aside0.mk (below_step (by repeat (first | (with_reducible first | exact HB.out | apply below_alloc | apply pw_below_drewN | apply below_drew1) | exact HB.out)) hb); clear HO443; clear HO445; clear HO453; clear HO457; clear HB; have HO443 := n0_; have HO445 := n1_; have HO453 := n2_; have HO457 := n3_; have HB := n4_; clear n0_ n1_ n2_ n3_ n4_; (try clear hb); (try clear hb2); (try clear hk); (try clear hi)) | ((with_reducible refine gate_callee (f := 95) rfl ?_); refine goesL_ (some 69) rfl rfl Try.func95 (by kernel_rfl) rfl #[.slice Ao15 t440.length co15] rfl (by (try simp only [List.map_toArray, List.map_cons, List.map_nil]); first | done | rfl | (simp only [List.length_drop, List.length_take]; rfl)) ?_; (with_reducible refine (spec_FlowBound.calls k _ _ t440 t464 t465 _ ?side1 ?side2 A12.out).mono ?_); (case side1 => repeat (first | exact (Kd.R_reads' HO443.out).2.2 | (with_reducible refine Kd.C_alloc ?_ _) | (with_reducible refine Kd.C_drewN ?_ _) | (with_reducible refine Kd.C_drew ?_))); (case side2 => exact (Kd.R_reads' HO443.out).2.1); rintro e w24 ⟨rfl, hb⟩; refine ⟨_, rfl, ?_⟩; have n0_ := Aside0.mk (Kd.R_below (by (with_reducible repeat (first | apply Kd.R_alloc | apply Kd.R_drewN | apply Kd.R_drew)); exact HO443.out) hb); have n1_ := Aside0.mk (Kd.R_below (by (with_reducible repeat (first | apply Kd.R_alloc | apply Kd.R_drewN | apply Kd.R_drew)); exact HO445.out) hb); have n2_ := Aside0.mk (Kd.R_below (by (with_reducible repeat (first | apply Kd.R_alloc | apply Kd.R_drewN | apply Kd.R_drew)); exact HO453.out) hb); have n3_ := Aside0.mk (Kd.R_below (by (with_reducible repeat (first | apply Kd.R_alloc | apply Kd.R_drewN | apply Kd.R_drew)); exact HO457.out) hb); have n4_ := Aside0.mk (below_step (by repeat (first | (with_reducible first | exact HB.out | apply below_alloc | apply pw_below_drewN | apply below_drew1) | exact HB.out)) hb); clear HO443; clear HO445; clear HO453; clear HO457; clear HB; have HO443 := n0_; have HO445 := n1_; have HO453 := n2_; have HO457 := n3_; have HB := n4_; clear n0_ n1_ n2_ n3_ n4_; (try clear hb); (try clear hb2); (try clear hk); (try clear hi)))
    (try simp only [Act.put, List.setIfInBounds_toArray, List.set_cons_zero, List.set_cons_succ])
    go_cut [117] (fun v117 wc => ∃ (kq : Nat) (x117_12 : Bool), v117 = .bool x117_12 ∧ Aside0 (laws_FnFlow.j0 kq t440 t446 t447 t450 t451 t458 t462 x117_12 = some r) ∧ Aside0 (kq ≤ k) ∧ Aside0 (Kd.R k62 62 wc w.heap.size (fun _ => True) (.slice Ao15 t440.length co15) t440) ∧ Aside0 (Kd.R (Kd.int .i64) 2 wc w.heap.size (fun _ => True) v452 t450) ∧ Aside0 (Below w.heap.size w wc))
    case first =>
      have H := HC13.out
      clear HC13
      by_cases c25 : t447 = t449
      · rw [if_pos c25] at H
        have c25b0 : (t447 == t449) = true := beq_iff_eq.mpr c25
        have c25b1 : (t447 != t449) = false := bne_eq_false_iff_eq.mpr c25
        clear c25
        (first | rw [c25b0] | (simp only [i64_w, i32_w]; rw [c25b0]) | skip)
        by_cases c26 : t446 = t448
        · rw [if_pos c26] at H
          have c26b0 : (t446 == t448) = true := beq_iff_eq.mpr c26
          have c26b1 : (t446 != t448) = false := bne_eq_false_iff_eq.mpr c26
          clear c26
          by_cases c27 : t451 = t455
          · rw [if_pos c27] at H
            have c27b0 : (t451 == t455) = true := beq_iff_eq.mpr c27
            have c27b1 : (t451 != t455) = false := bne_eq_false_iff_eq.mpr c27
            clear c27
            replace H := Option.bind_eq_some_iff.mp H
            obtain ⟨t466, A280, H⟩ := H
            replace H : (if t466 = true then (if t459 = t461 then (if t458 = t460 then (if t463 = t465 then (if t462 = t464 then ((impl_AreFlowJobs.f k t440).bind fun t467 => (laws_FnFlow.j0 k t440 t446 t447 t450 t451 t458 t462 (t467 != (t455 == 0)))) else (laws_FnFlow.j0 k t440 t446 t447 t450 t451 t458 t462 true)) else (laws_FnFlow.j0 k t440 t446 t447 t450 t451 t458 t462 true)) else (laws_FnFlow.j0 k t440 t446 t447 t450 t451 t458 t462 true)) else (laws_FnFlow.j0 k t440 t446 t447 t450 t451 t458 t462 true)) else (laws_FnFlow.j0 k t440 t446 t447 t450 t451 t458 t462 true)) = some r := H
            have A28 := Aside0.mk A280
            clear A280
            by_cases c29 : t466 = true
            · subst c29
              have H1 : (if t459 = t461 then (if t458 = t460 then (if t463 = t465 then (if t462 = t464 then ((impl_AreFlowJobs.f k t440).bind fun t467 => (laws_FnFlow.j0 k t440 t446 t447 t450 t451 t458 t462 (t467 != (t455 == 0)))) else (laws_FnFlow.j0 k t440 t446 t447 t450 t451 t458 t462 true)) else (laws_FnFlow.j0 k t440 t446 t447 t450 t451 t458 t462 true)) else (laws_FnFlow.j0 k t440 t446 t447 t450 t451 t458 t462 true)) else (laws_FnFlow.j0 k t440 t446 t447 t450 t451 t458 t462 true)) = some r := by rw [if_pos rfl] at H; exact H
              clear H
              have H := H1
              clear H1
              by_cases c30 : t459 = t461
              · rw [if_pos c30] at H
                have c30b0 : (t459 == t461) = true := beq_iff_eq.mpr c30
                have c30b1 : (t459 != t461) = false := bne_eq_false_iff_eq.mpr c30
                clear c30
                by_cases c31 : t458 = t460
                · rw [if_pos c31] at H
                  have c31b0 : (t458 == t460) = true := beq_iff_eq.mpr c31
                  have c31b1 : (t458 != t460) = false := bne_eq_false_iff_eq.mpr c31
                  clear c31
                  by_cases c32 : t463 = t465
                  · rw [if_pos c32] at H
                    have c32b0 : (t463 == t465) = true := beq_iff_eq.mpr c32
                    have c32b1 : (t463 != t465) = false := bne_eq_false_iff_eq.mpr c32
                    clear c32
                    by_cases c33 : t462 = t464
                    · rw [if_pos c33] at H
                      have c33b0 : (t462 == t464) = true := beq_iff_eq.mpr c33
                      have c33b1 : (t462 != t464) = false := bne_eq_false_iff_eq.mpr c33
                      clear c33
                      replace H := Option.bind_eq_some_iff.mp H
                      obtain ⟨t467, A340, H⟩ := H
                      replace H : (laws_FnFlow.j0 k t440 t446 t447 t450 t451 t458 t462 (t467 != (t455 == 0))) = some r := H
                      have A34 := Aside0.mk A340
                      clear A340
                      have H' := Aside0.mk H
                      clear H
                      obtain ⟨Ao35, co35, eo35⟩ := Kd.R_slice HO453.out
                      subst eo35
                      obtain ⟨Ao36, co36, eo36⟩ := Kd.R_slice HO457.out
                      subst eo36
                      go_wp2_with (first | (go_at_call 43; (with_reducible refine (laws_likeInts.calls k _ _ t450 _ _ t454 true _ ?side1 ?side2 ?side3 ?side4 A28.out).mono ?_); (case side1 => repeat (first | exact (Kd.R_reads' HO453.out).2.2 | (with_reducible refine Kd.C_alloc ?_ _) | (with_reducible refine Kd.C_drewN ?_ _) | (with_reducible refine Kd.C_drew ?_))); (case side2 => exact (Kd.R_reads' HO453.out).2.1); (case side3 => repeat (first | exact (Kd.R_reads' HO457.out).2.2 | (with_reducible refine Kd.C_alloc ?_ _) | (with_reducible refine Kd.C_drewN ?_ _) | (with_reducible refine Kd.C_drew ?_))); (case side4 => exact (Kd.R_reads' HO457.out).2.1); rintro e w' ⟨rfl, ⟨nd, rfl⟩⟩) | (go_at_call 96; (with_reducible refine (impl_AreFlowJobs.calls k _ _ t440 t467 _ ?side1 ?side2 A34.out).mono ?_); (case side1 => repeat (first | exact (Kd.R_reads' HO443.out).2.2 | (with_reducible refine Kd.C_alloc ?_ _) | (with_reducible refine Kd.C_drewN ?_ _) | (with_reducible refine Kd.C_drew ?_))); (case side2 => exact (Kd.R_reads' HO443.out).2.1); rintro e w37 ⟨rfl, hb⟩; have n0_ := Aside0.mk (Kd.R_below (by (with_reducible repeat (first | apply Kd.R_alloc | apply Kd.R_drewN | apply Kd.R_drew)); exact HO443.out) hb); have n1_ := Aside0.mk (Kd.R_below (by (with_reducible repeat (first | apply Kd.R_alloc | apply Kd.R_drewN | apply Kd.R_drew)); exact HO445.out) hb); have n2_ := Aside0.mk (Kd.R_below (by (with_reducible repeat (first | apply Kd.R_alloc | apply Kd.R_drewN | apply Kd.R_drew)); exact HO453.out) hb); have n3_ := Aside0.mk (Kd.R_below (by (with_reducible repeat (first | apply Kd.R_alloc | apply Kd.R_drewN | apply Kd.R_drew)); exact HO457.out) hb); have n4_ := Aside0.mk (below_step (by repeat (first | (with_reducible first | exact HB.out | apply below_alloc | apply pw_below_drewN | apply below_drew1) | exact HB.out)) hb); clear HO443; clear HO445; clear HO453; clear HO457; clear HB; have HO443 := n0_; have HO445 := n1_; have HO453 := n2_; have HO457 := n3_; have HB := n4_; clear n0_ n1_ n2_ n3_ n4_; (try clear hb); (try clear hb2); (try clear hk); (try clear hi)))
                      go_meet
                      case rel => exact ⟨_, ((t467 != (t455 == 0))), (by first | rfl | (simp; done) | (simp [*]; done)), H', ⟨by first | omega | exact Nat.le_refl _⟩, ⟨by (with_reducible repeat (first | apply Kd.R_alloc | apply Kd.R_drewN | apply Kd.R_drew)); exact HO443.out⟩, ⟨by (with_reducible repeat (first | apply Kd.R_alloc | apply Kd.R_drewN | apply Kd.R_drew)); exact Kd.R_mono HO453.out (fun _ hk => trivial)⟩, ⟨by repeat (first | (with_reducible first | exact HB.out | apply below_alloc | apply pw_below_drewN | apply below_drew1) | exact HB.out)⟩⟩
                    · rw [if_neg c33] at H
                      have c33b0 : (t462 == t464) = false := beq_eq_false_iff_ne.mpr c33
                      have c33b1 : (t462 != t464) = true := bne_iff_ne.mpr c33
                      have H' := Aside0.mk H
                      clear H
                      obtain ⟨Ao38, co38, eo38⟩ := Kd.R_slice HO453.out
                      subst eo38
                      obtain ⟨Ao39, co39, eo39⟩ := Kd.R_slice HO457.out
                      subst eo39
                      go_wp2_with (first | (go_at_call 43; (with_reducible refine (laws_likeInts.calls k _ _ t450 _ _ t454 true _ ?side1 ?side2 ?side3 ?side4 A28.out).mono ?_); (case side1 => repeat (first | exact (Kd.R_reads' HO453.out).2.2 | (with_reducible refine Kd.C_alloc ?_ _) | (with_reducible refine Kd.C_drewN ?_ _) | (with_reducible refine Kd.C_drew ?_))); (case side2 => exact (Kd.R_reads' HO453.out).2.1); (case side3 => repeat (first | exact (Kd.R_reads' HO457.out).2.2 | (with_reducible refine Kd.C_alloc ?_ _) | (with_reducible refine Kd.C_drewN ?_ _) | (with_reducible refine Kd.C_drew ?_))); (case side4 => exact (Kd.R_reads' HO457.out).2.1); rintro e w' ⟨rfl, ⟨nd, rfl⟩⟩))
                      go_meet
                      case rel => exact ⟨_, (true), (by first | rfl | (simp; done) | (simp [*]; done)), H', ⟨by first | omega | exact Nat.le_refl _⟩, ⟨by (with_reducible repeat (first | apply Kd.R_alloc | apply Kd.R_drewN | apply Kd.R_drew)); exact HO443.out⟩, ⟨by (with_reducible repeat (first | apply Kd.R_alloc | apply Kd.R_drewN | apply Kd.R_drew)); exact Kd.R_mono HO453.out (fun _ hk => trivial)⟩, ⟨by repeat (first | (with_reducible first | exact HB.out | apply below_alloc | apply pw_below_drewN | apply below_drew1) | exact HB.out)⟩⟩
                  · rw [if_neg c32] at H
                    have c32b0 : (t463 == t465) = false := beq_eq_false_iff_ne.mpr c32
                    have c32b1 : (t463 != t465) = true := bne_iff_ne.mpr c32
                    have H' := Aside0.mk H
                    clear H
                    obtain ⟨Ao40, co40, eo40⟩ := Kd.R_slice HO453.out
                    subst eo40
                    obtain ⟨Ao41, co41, eo41⟩ := Kd.R_slice HO457.out
                    subst eo41
                    go_wp2_with (first | (go_at_call 43; (with_reducible refine (laws_likeInts.calls k _ _ t450 _ _ t454 true _ ?side1 ?side2 ?side3 ?side4 A28.out).mono ?_); (case side1 => repeat (first | exact (Kd.R_reads' HO453.out).2.2 | (with_reducible refine Kd.C_alloc ?_ _) | (with_reducible refine Kd.C_drewN ?_ _) | (with_reducible refine Kd.C_drew ?_))); (case side2 => exact (Kd.R_reads' HO453.out).2.1); (case side3 => repeat (first | exact (Kd.R_reads' HO457.out).2.2 | (with_reducible refine Kd.C_alloc ?_ _) | (with_reducible refine Kd.C_drewN ?_ _) | (with_reducible refine Kd.C_drew ?_))); (case side4 => exact (Kd.R_reads' HO457.out).2.1); rintro e w' ⟨rfl, ⟨nd, rfl⟩⟩))
                    go_meet
                    case rel => exact ⟨_, (true), (by first | rfl | (simp; done) | (simp [*]; done)), H', ⟨by first | omega | exact Nat.le_refl _⟩, ⟨by (with_reducible repeat (first | apply Kd.R_alloc | apply Kd.R_drewN | apply Kd.R_drew)); exact HO443.out⟩, ⟨by (with_reducible repeat (first | apply Kd.R_alloc | apply Kd.R_drewN | apply Kd.R_drew)); exact Kd.R_mono HO453.out (fun _ hk => trivial)⟩, ⟨by repeat (first | (with_reducible first | exact HB.out | apply below_alloc | apply pw_below_drewN | apply below_drew1) | exact HB.out)⟩⟩
                · rw [if_neg c31] at H
                  have c31b0 : (t458 == t460) = false := beq_eq_false_iff_ne.mpr c31
                  have c31b1 : (t458 != t460) = true := bne_iff_ne.mpr c31
                  have H' := Aside0.mk H
                  clear H
                  obtain ⟨Ao42, co42, eo42⟩ := Kd.R_slice HO453.out
                  subst eo42
                  obtain ⟨Ao43, co43, eo43⟩ := Kd.R_slice HO457.out
                  subst eo43
                  go_wp2_with (first | (go_at_call 43; (with_reducible refine (laws_likeInts.calls k _ _ t450 _ _ t454 true _ ?side1 ?side2 ?side3 ?side4 A28.out).mono ?_); (case side1 => repeat (first | exact (Kd.R_reads' HO453.out).2.2 | (with_reducible refine Kd.C_alloc ?_ _) | (with_reducible refine Kd.C_drewN ?_ _) | (with_reducible refine Kd.C_drew ?_))); (case side2 => exact (Kd.R_reads' HO453.out).2.1); (case side3 => repeat (first | exact (Kd.R_reads' HO457.out).2.2 | (with_reducible refine Kd.C_alloc ?_ _) | (with_reducible refine Kd.C_drewN ?_ _) | (with_reducible refine Kd.C_drew ?_))); (case side4 => exact (Kd.R_reads' HO457.out).2.1); rintro e w' ⟨rfl, ⟨nd, rfl⟩⟩))
                  go_meet
                  case rel => exact ⟨_, (true), (by first | rfl | (simp; done) | (simp [*]; done)), H', ⟨by first | omega | exact Nat.le_refl _⟩, ⟨by (with_reducible repeat (first | apply Kd.R_alloc | apply Kd.R_drewN | apply Kd.R_drew)); exact HO443.out⟩, ⟨by (with_reducible repeat (first | apply Kd.R_alloc | apply Kd.R_drewN | apply Kd.R_drew)); exact Kd.R_mono HO453.out (fun _ hk => trivial)⟩, ⟨by repeat (first | (with_reducible first | exact HB.out | apply below_alloc | apply pw_below_drewN | apply below_drew1) | exact HB.out)⟩⟩
              · rw [if_neg c30] at H
                have c30b0 : (t459 == t461) = false := beq_eq_false_iff_ne.mpr c30
                have c30b1 : (t459 != t461) = true := bne_iff_ne.mpr c30
                have H' := Aside0.mk H
                clear H
                obtain ⟨Ao44, co44, eo44⟩ := Kd.R_slice HO453.out
                subst eo44
                obtain ⟨Ao45, co45, eo45⟩ := Kd.R_slice HO457.out
                subst eo45
                go_wp2_with (first | (go_at_call 43; (with_reducible refine (laws_likeInts.calls k _ _ t450 _ _ t454 true _ ?side1 ?side2 ?side3 ?side4 A28.out).mono ?_); (case side1 => repeat (first | exact (Kd.R_reads' HO453.out).2.2 | (with_reducible refine Kd.C_alloc ?_ _) | (with_reducible refine Kd.C_drewN ?_ _) | (with_reducible refine Kd.C_drew ?_))); (case side2 => exact (Kd.R_reads' HO453.out).2.1); (case side3 => repeat (first | exact (Kd.R_reads' HO457.out).2.2 | (with_reducible refine Kd.C_alloc ?_ _) | (with_reducible refine Kd.C_drewN ?_ _) | (with_reducible refine Kd.C_drew ?_))); (case side4 => exact (Kd.R_reads' HO457.out).2.1); rintro e w' ⟨rfl, ⟨nd, rfl⟩⟩))
                go_meet
                case rel => exact ⟨_, (true), (by first | rfl | (simp; done) | (simp [*]; done)), H', ⟨by first | omega | exact Nat.le_refl _⟩, ⟨by (with_reducible repeat (first | apply Kd.R_alloc | apply Kd.R_drewN | apply Kd.R_drew)); exact HO443.out⟩, ⟨by (with_reducible repeat (first | apply Kd.R_alloc | apply Kd.R_drewN | apply Kd.R_drew)); exact Kd.R_mono HO453.out (fun _ hk => trivial)⟩, ⟨by repeat (first | (with_reducible first | exact HB.out | apply below_alloc | apply pw_below_drewN | apply below_drew1) | exact HB.out)⟩⟩
            · replace c29 := Bool.eq_false_iff.mpr c29
              subst c29
              have H1 : (laws_FnFlow.j0 k t440 t446 t447 t450 t451 t458 t462 true) = some r := by rw [if_neg (show ¬ (false = true) by decide)] at H; exact H
              clear H
              have H := H1
              clear H1
              have H' := Aside0.mk H
              clear H
              obtain ⟨Ao46, co46, eo46⟩ := Kd.R_slice HO453.out
              subst eo46
              obtain ⟨Ao47, co47, eo47⟩ := Kd.R_slice HO457.out
              subst eo47
              go_wp2_with (first | (go_at_call 43; (with_reducible refine (laws_likeInts.calls k _ _ t450 _ _ t454 false _ ?side1 ?side2 ?side3 ?side4 A28.out).mono ?_); (case side1 => repeat (first | exact (Kd.R_reads' HO453.out).2.2 | (with_reducible refine Kd.C_alloc ?_ _) | (with_reducible refine Kd.C_drewN ?_ _) | (with_reducible refine Kd.C_drew ?_))); (case side2 => exact (Kd.R_reads' HO453.out).2.1); (case side3 => repeat (first | exact (Kd.R_reads' HO457.out).2.2 | (with_reducible refine Kd.C_alloc ?_ _) | (with_reducible refine Kd.C_drewN ?_ _) | (with_reducible refine Kd.C_drew ?_))); (case side4 => exact (Kd.R_reads' HO457.out).2.1); rintro e w' ⟨rfl, ⟨nd, rfl⟩⟩))
              go_meet
              case rel => exact ⟨_, (true), (by first | rfl | (simp; done) | (simp [*]; done)), H', ⟨by first | omega | exact Nat.le_refl _⟩, ⟨by (with_reducible repeat (first | apply Kd.R_alloc | apply Kd.R_drewN | apply Kd.R_drew)); exact HO443.out⟩, ⟨by (with_reducible repeat (first | apply Kd.R_alloc | apply Kd.R_drewN | apply Kd.R_drew)); exact Kd.R_mono HO453.out (fun _ hk => trivial)⟩, ⟨by repeat (first | (with_reducible first | exact HB.out | apply below_alloc | apply pw_below_drewN | apply below_drew1) | exact HB.out)⟩⟩
          · rw [if_neg c27] at H
            have c27b0 : (t451 == t455) = false := beq_eq_false_iff_ne.mpr c27
            have c27b1 : (t451 != t455) = true := bne_iff_ne.mpr c27
            have H' := Aside0.mk H
            clear H
            go_wp2
            go_meet
            case rel => exact ⟨_, (true), (by first | rfl | (simp; done) | (simp [*]; done)), H', ⟨by first | omega | exact Nat.le_refl _⟩, ⟨by (with_reducible repeat (first | apply Kd.R_alloc | apply Kd.R_drewN | apply Kd.R_drew)); exact HO443.out⟩, ⟨by (with_reducible repeat (first | apply Kd.R_alloc | apply Kd.R_drewN | apply Kd.R_drew)); exact Kd.R_mono HO453.out (fun _ hk => trivial)⟩, ⟨by repeat (first | (with_reducible first | exact HB.out | apply below_alloc | apply pw_below_drewN | apply below_drew1) | exact HB.out)⟩⟩
        · rw [if_neg c26] at H
          have c26b0 : (t446 == t448) = false := beq_eq_false_iff_ne.mpr c26
          have c26b1 : (t446 != t448) = true := bne_iff_ne.mpr c26
          have H' := Aside0.mk H
          clear H
          go_wp2
          go_meet
          case rel => exact ⟨_, (true), (by first | rfl | (simp; done) | (simp [*]; done)), H', ⟨by first | omega | exact Nat.le_refl _⟩, ⟨by (with_reducible repeat (first | apply Kd.R_alloc | apply Kd.R_drewN | apply Kd.R_drew)); exact HO443.out⟩, ⟨by (with_reducible repeat (first | apply Kd.R_alloc | apply Kd.R_drewN | apply Kd.R_drew)); exact Kd.R_mono HO453.out (fun _ hk => trivial)⟩, ⟨by repeat (first | (with_reducible first | exact HB.out | apply below_alloc | apply pw_below_drewN | apply below_drew1) | exact HB.out)⟩⟩
      · rw [if_neg c25] at H
        have c25b0 : (t447 == t449) = false := beq_eq_false_iff_ne.mpr c25
        have c25b1 : (t447 != t449) = true := bne_iff_ne.mpr c25
        (first | rw [c25b0] | (simp only [i64_w, i32_w]; rw [c25b0]) | skip)
        have H' := Aside0.mk H
        clear H
        go_wp2
        go_meet
        case rel => exact ⟨_, (true), (by first | rfl | (simp; done) | (simp [*]; done)), H', ⟨by first | omega | exact Nat.le_refl _⟩, ⟨by (with_reducible repeat (first | apply Kd.R_alloc | apply Kd.R_drewN | apply Kd.R_drew)); exact HO443.out⟩, ⟨by (with_reducible repeat (first | apply Kd.R_alloc | apply Kd.R_drewN | apply Kd.R_drew)); exact Kd.R_mono HO453.out (fun _ hk => trivial)⟩, ⟨by repeat (first | (with_reducible first | exact HB.out | apply below_alloc | apply pw_below_drewN | apply below_drew1) | exact HB.out)⟩⟩
    case rest =>
      clear HC13
      try clear c1
      try clear c2
      try clear p2
      try clear c3
      try clear c5
      try clear c8
      try clear c9
      try clear c13
      try clear c25
      try clear c25b0
      try clear c25b1
      try clear c26
      try clear c26b0
      try clear c26b1
      try clear c27
      try clear c27b0
      try clear c27b1
      try clear c29
      try clear c30
      try clear c30b0
      try clear c30b1
      try clear c31
      try clear c31b0
      try clear c31b1
      try clear c32
      try clear c32b0
      try clear c32b1
      try clear c33
      try clear c33b0
      try clear c33b1
      obtain ⟨kq, x117_12, rfl, HA, HJ12, HO_3, HO_9, HB⟩ := hcut
      cases kq with
      | zero => exact absurd HA.out (by simp [laws_FnFlow.j0])
      | succ kj12 =>
        have H := HA.out
        clear HA
        simp only [laws_FnFlow.j0] at H
        by_cases c48 : x117_12 = true
        · subst c48
          have H1 : (some false) = some r := by rw [if_pos rfl] at H; exact H
          clear H
          have H := H1
          clear H1
          exact absurd ((Option.some.inj H).trans hT.out) (by decide)
        · replace c48 := Bool.eq_false_iff.mpr c48
          subst c48
          have H1 : (if t451 = 0 then ((impl_Makespan.f kj12 t440 t450).bind fun bt468 => (if bt468.2 = 0 then (if bt468.1 = t458 then (if t462 ≤ t458 then (if t447 = 0 then (some (decide (t446 ≥ t458))) else (some true)) else (some false)) else (some false)) else (some false))) else (some true)) = some r := by rw [if_neg (show ¬ (false = true) by decide)] at H; exact H
          clear H
          have H := H1
          clear H1
          by_cases c49 : t451 = 0
          · rw [if_pos c49] at H
            have c49b0 : (t451 == 0) = true := beq_iff_eq.mpr c49
            have c49b1 : (t451 != 0) = false := bne_eq_false_iff_eq.mpr c49
            clear c49
            replace H := Option.bind_eq_some_iff.mp H
            obtain ⟨⟨t468, t469⟩, A500, H⟩ := H
            replace H : (if t469 = 0 then (if t468 = t458 then (if t462 ≤ t458 then (if t447 = 0 then (some (decide (t446 ≥ t458))) else (some true)) else (some false)) else (some false)) else (some false)) = some r := H
            have A50 := Aside0.mk A500
            clear A500
            by_cases c51 : t469 = 0
            · rw [if_pos c51] at H
              have c51b0 : (t469 == 0) = true := beq_iff_eq.mpr c51
              have c51b1 : (t469 != 0) = false := bne_eq_false_iff_eq.mpr c51
              clear c51
              by_cases c52 : t468 = t458
              · rw [if_pos c52] at H
                have c52b0 : (t468 == t458) = true := beq_iff_eq.mpr c52
                have c52b1 : (t468 != t458) = false := bne_eq_false_iff_eq.mpr c52
                clear c52
                by_cases c53 : t462 ≤ t458
                · rw [if_pos c53] at H
                  have c53b0 : decide (t462 ≤ t458) = true := decide_eq_true c53
                  clear c53
                  by_cases c54 : t447 = 0
                  · rw [if_pos c54] at H
                    have c54b0 : (t447 == 0) = true := beq_iff_eq.mpr c54
                    have c54b1 : (t447 != 0) = false := bne_eq_false_iff_eq.mpr c54
                    clear c54
                    obtain rfl := Option.some.inj H
                    obtain ⟨Ao55, co55, eo55⟩ := Kd.R_slice HO_9.out
                    subst eo55
                    go_wp2_with (first | ((with_reducible refine gate_callee (f := 51) rfl ?_); refine goesL_ (some 123) rfl rfl Try.func51 (by kernel_rfl) rfl #[.slice Ao15 t440.length co15, .slice Ao55 t450.length co55] rfl (by (try simp only [List.map_toArray, List.map_cons, List.map_nil]); first | done | rfl | (simp only [List.length_drop, List.length_take]; rfl)) ?_; (with_reducible refine (impl_Makespan.calls kj12 _ _ t440 _ _ t450 t468 t469 _ ?side1 ?side2 ?side3 ?side4 A50.out).mono ?_); (case side1 => repeat (first | exact (Kd.R_reads' HO_3.out).2.2 | (with_reducible refine Kd.C_alloc ?_ _) | (with_reducible refine Kd.C_drewN ?_ _) | (with_reducible refine Kd.C_drew ?_))); (case side2 => exact (Kd.R_reads' HO_3.out).2.1); (case side3 => repeat (first | exact (Kd.R_reads' HO_9.out).2.2 | (with_reducible refine Kd.C_alloc ?_ _) | (with_reducible refine Kd.C_drewN ?_ _) | (with_reducible refine Kd.C_drew ?_))); (case side4 => exact (Kd.R_reads' HO_9.out).2.1); rintro e w56 ⟨rfl, hb⟩; refine ⟨_, rfl, ?_⟩; have n0_ := Aside0.mk (Kd.R_below (by (with_reducible repeat (first | apply Kd.R_alloc | apply Kd.R_drewN | apply Kd.R_drew)); exact HO_3.out) hb); have n1_ := Aside0.mk (Kd.R_below (by (with_reducible repeat (first | apply Kd.R_alloc | apply Kd.R_drewN | apply Kd.R_drew)); exact HO_9.out) hb); have n2_ := Aside0.mk (below_step (by repeat (first | (with_reducible first | exact HB.out | apply below_alloc | apply pw_below_drewN | apply below_drew1) | exact HB.out)) hb); clear HO_3; clear HO_9; clear HB; have HO_3 := n0_; have HO_9 := n1_; have HB := n2_; clear n0_ n1_ n2_; (try clear hb); (try clear hb2); (try clear hk); (try clear hi)))
                    go_ret
                    exact ⟨by first | rfl | (simp [errW_none, errW_some] <;> rfl) | (simp [*, errW_none, errW_some] <;> rfl), by repeat (first | (with_reducible first | exact HB.out | apply below_alloc | apply pw_below_drewN | apply below_drew1) | exact HB.out)⟩
                  · rw [if_neg c54] at H
                    have c54b0 : (t447 == 0) = false := beq_eq_false_iff_ne.mpr c54
                    have c54b1 : (t447 != 0) = true := bne_iff_ne.mpr c54
                    obtain rfl := Option.some.inj H
                    obtain ⟨Ao57, co57, eo57⟩ := Kd.R_slice HO_9.out
                    subst eo57
                    go_wp2_with (first | ((with_reducible refine gate_callee (f := 51) rfl ?_); refine goesL_ (some 123) rfl rfl Try.func51 (by kernel_rfl) rfl #[.slice Ao15 t440.length co15, .slice Ao57 t450.length co57] rfl (by (try simp only [List.map_toArray, List.map_cons, List.map_nil]); first | done | rfl | (simp only [List.length_drop, List.length_take]; rfl)) ?_; (with_reducible refine (impl_Makespan.calls kj12 _ _ t440 _ _ t450 t468 t469 _ ?side1 ?side2 ?side3 ?side4 A50.out).mono ?_); (case side1 => repeat (first | exact (Kd.R_reads' HO_3.out).2.2 | (with_reducible refine Kd.C_alloc ?_ _) | (with_reducible refine Kd.C_drewN ?_ _) | (with_reducible refine Kd.C_drew ?_))); (case side2 => exact (Kd.R_reads' HO_3.out).2.1); (case side3 => repeat (first | exact (Kd.R_reads' HO_9.out).2.2 | (with_reducible refine Kd.C_alloc ?_ _) | (with_reducible refine Kd.C_drewN ?_ _) | (with_reducible refine Kd.C_drew ?_))); (case side4 => exact (Kd.R_reads' HO_9.out).2.1); rintro e w58 ⟨rfl, hb⟩; refine ⟨_, rfl, ?_⟩; have n0_ := Aside0.mk (Kd.R_below (by (with_reducible repeat (first | apply Kd.R_alloc | apply Kd.R_drewN | apply Kd.R_drew)); exact HO_3.out) hb); have n1_ := Aside0.mk (Kd.R_below (by (with_reducible repeat (first | apply Kd.R_alloc | apply Kd.R_drewN | apply Kd.R_drew)); exact HO_9.out) hb); have n2_ := Aside0.mk (below_step (by repeat (first | (with_reducible first | exact HB.out | apply below_alloc | apply pw_below_drewN | apply below_drew1) | exact HB.out)) hb); clear HO_3; clear HO_9; clear HB; have HO_3 := n0_; have HO_9 := n1_; have HB := n2_; clear n0_ n1_ n2_; (try clear hb); (try clear hb2); (try clear hk); (try clear hi)))
                    go_ret
                    exact ⟨by first | rfl | (simp [errW_none, errW_some] <;> rfl) | (simp [*, errW_none, errW_some] <;> rfl), by repeat (first | (with_reducible first | exact HB.out | apply below_alloc | apply pw_below_drewN | apply below_drew1) | exact HB.out)⟩
                · rw [if_neg c53] at H
                  have c53b0 : decide (t462 ≤ t458) = false := decide_eq_false c53
                  clear c53
                  exact absurd ((Option.some.inj H).trans hT.out) (by decide)
              · rw [if_neg c52] at H
                have c52b0 : (t468 == t458) = false := beq_eq_false_iff_ne.mpr c52
                have c52b1 : (t468 != t458) = true := bne_iff_ne.mpr c52
                exact absurd ((Option.some.inj H).trans hT.out) (by decide)
            · rw [if_neg c51] at H
              have c51b0 : (t469 == 0) = false := beq_eq_false_iff_ne.mpr c51
              have c51b1 : (t469 != 0) = true := bne_iff_ne.mpr c51
              exact absurd ((Option.some.inj H).trans hT.out) (by decide)
          · rw [if_neg c49] at H
            have c49b0 : (t451 == 0) = false := beq_eq_false_iff_ne.mpr c49
            have c49b1 : (t451 != 0) = true := bne_iff_ne.mpr c49
            obtain rfl := Option.some.inj H
            go_wp2
            go_ret
            exact ⟨by first | rfl | (simp [errW_none, errW_some] <;> rfl) | (simp [*, errW_none, errW_some] <;> rfl), by repeat (first | (with_reducible first | exact HB.out | apply below_alloc | apply pw_below_drewN | apply below_drew1) | exact HB.out)⟩

/-- The one pure statement of laws_FnFlow. -/
def laws_FnFlow.Pure : Prop := ∀ (l0 : List Int), l0.length * 1 ≤ 140737488351232 → (∀ x ∈ l0, (Lit.int .u8 x).wf = true) → ∃ k, laws_FnFlow.f k l0 = some true
theorem laws_FnFlow.walk (P : laws_FnFlow.Pure) (A0 : Option Addr) (c0 : Nat) (l0 : List Int) (w : World) (w0_0 : l0.length * 1 ≤ 140737488351232) (w0_1 : (∀ x ∈ l0, (Lit.int .u8 x).wf = true)) (hr0 : Kd.C (Kd.int .u8) w A0 l0.length l0) (hc0 : l0.length ≤ c0) :
    Calls Try.prog 13 #[.slice A0 l0.length c0] w fun e w' => e = .returned (.bool true) ∧ Below w.heap.size w w' := by
  obtain ⟨k, h⟩ := P l0 w0_0 w0_1
  refine (laws_FnFlow.calls k A0 c0 l0 true w ⟨rfl⟩ hr0 hc0 h).mono ?_
  rintro e w' ⟨rfl, hd⟩
  exact ⟨rfl, hd⟩

end Go.Proofs.Ytefnoiajfjbbpaa.PFnFlow
