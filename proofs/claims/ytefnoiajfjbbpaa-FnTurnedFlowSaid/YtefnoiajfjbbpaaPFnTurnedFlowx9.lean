-- Printed by the session (wip/myprint.py).
import Derived.Test.YtefnoiajfjbbpaaPFnTurnedFlowx0
import Derived.Test.YtefnoiajfjbbpaaPFnTurnedFlowx2
import Derived.Test.YtefnoiajfjbbpaaPFnTurnedFlowx3
import Derived.Test.YtefnoiajfjbbpaaPFnTurnedFlowx4
import Derived.Test.YtefnoiajfjbbpaaPFnTurnedFlowx6
import Derived.Test.YtefnoiajfjbbpaaPFnTurnedFlowx7
import Derived.Test.YtefnoiajfjbbpaaPFnTurnedFlowx8
namespace Go.Proofs.Ytefnoiajfjbbpaa.PFnTurnedFlow
open Go.RowKit Go.Proofs.YtefnoiajfjbbpaaW.PrintWords Go.Proofs.YtefnoiajfjbbpaaW.PrintLast Go.Proofs.YtefnoiajfjbbpaaW.PrintMore
attribute [local go_sem] max2_int min2_int max_two min_two max_three min_three max_four min_four   -- for this text's walks alone
set_option linter.unusedVariables false
set_option linter.unusedSimpArgs false

/-! ### laws_FnTurnedFlow: function 6 -/
mutual
def laws_FnTurnedFlow.j0 : Nat → List (S62) → List Int → List (S62) → List Int → Int → List (List Int) → Int → Bool → Option (Bool)
  | 0, _, _, _, _, _, _, _, _ => none
  | k + 1, x3, x4, x5, x6, x7, x11, x15, x105 => if x105 = true then (some false) else (if x7 = 0 then ((impl_Makespan.f k x3 x4).bind fun bt405 => ((impl_Makespan.f k x5 x6).bind fun bt407 => (if bt405.2 = 0 then (if bt407.2 = 0 then (if bt405.1 = bt407.1 then (laws_FnTurnedFlow.j1 k x3 x4 x11 bt405.1 (decide (x15 < 0))) else (laws_FnTurnedFlow.j1 k x3 x4 x11 bt405.1 true)) else (laws_FnTurnedFlow.j1 k x3 x4 x11 bt405.1 true)) else (laws_FnTurnedFlow.j1 k x3 x4 x11 bt405.1 true)))) else (some true))
def laws_FnTurnedFlow.j1 : Nat → List (S62) → List Int → List (List Int) → Int → Bool → Option (Bool)
  | 0, _, _, _, _, _ => none
  | k + 1, x3, x4, x11, x19, x134 => if x134 = true then (some false) else (laws_FnTurnedFlow.l0 k x3 x4 x11 x19 0)
def laws_FnTurnedFlow.l0 : Nat → List (S62) → List Int → List (List Int) → Int → Int → Option (Bool)
  | 0, _, _, _, _, _ => none
  | k + 1, x3, x4, x11, x19, x23 => if x23 < (x4.length : Int) then (if 0 ≤ x23 then (if 0 ≤ (rd x4 x23) then (if (rd x4 x23) < (x11.length : Int) then (if 1 < ((rd_L2 x11 (rd x4 x23)).length : Int) then (if 0 < ((rd_L2 x11 (rd x4 x23)).length : Int) then (if (rd x4 x23) < (x3.length : Int) then (if (rd (rd_L2 x11 (rd x4 x23)) 1) < (wrap64 ((rd (rd_L2 x11 (rd x4 x23)) 0) + ((rd_T62 x3 (rd x4 x23)).f0))) then (laws_FnTurnedFlow.j3 k x3 x4 x11 x19 x23 (rd x4 x23) true) else (laws_FnTurnedFlow.j3 k x3 x4 x11 x19 x23 (rd x4 x23) (decide ((wrap64 ((rd (rd_L2 x11 (rd x4 x23)) 1) + ((rd_T62 x3 (rd x4 x23)).f1))) > x19)))) else (none)) else (none)) else (none)) else (none)) else (none)) else (none)) else (some true)
def laws_FnTurnedFlow.j3 : Nat → List (S62) → List Int → List (List Int) → Int → Int → Int → Bool → Option (Bool)
  | 0, _, _, _, _, _, _, _ => none
  | k + 1, x3, x4, x11, x19, x23, x24, x179 => if x179 = true then (some false) else (if x23 > 0 then (if 0 ≤ x24 then (if x24 < (x11.length : Int) then (if 0 < ((rd_L2 x11 x24).length : Int) then (if 0 ≤ (wrap64 (x23 - 1)) then (if (wrap64 (x23 - 1)) < (x4.length : Int) then (if 0 ≤ (rd x4 (wrap64 (x23 - 1))) then (if (rd x4 (wrap64 (x23 - 1))) < (x11.length : Int) then (if 0 < ((rd_L2 x11 (rd x4 (wrap64 (x23 - 1)))).length : Int) then (if (rd x4 (wrap64 (x23 - 1))) < (x3.length : Int) then (if (rd (rd_L2 x11 x24) 0) < (wrap64 ((rd (rd_L2 x11 (rd x4 (wrap64 (x23 - 1)))) 0) + ((rd_T62 x3 (rd x4 (wrap64 (x23 - 1)))).f0))) then (some false) else (if 1 < ((rd_L2 x11 x24).length : Int) then (if 1 < ((rd_L2 x11 (rd x4 (wrap64 (x23 - 1)))).length : Int) then (if (rd (rd_L2 x11 x24) 1) < (wrap64 ((rd (rd_L2 x11 (rd x4 (wrap64 (x23 - 1)))) 1) + ((rd_T62 x3 (rd x4 (wrap64 (x23 - 1)))).f1))) then (some false) else (laws_FnTurnedFlow.l0 k x3 x4 x11 x19 (wrap64 (x23 + 1)))) else (none)) else (none))) else (none)) else (none)) else (none)) else (none)) else (none)) else (none)) else (none)) else (none)) else (none)) else (laws_FnTurnedFlow.l0 k x3 x4 x11 x19 (wrap64 (x23 + 1))))
end
def laws_FnTurnedFlow.f (k : Nat) (l0 : List Int) : Option (Bool) := (laws_big.f l0).bind fun t369 => (if t369 = true then (some true) else ((spec_DrawTurnFlow.f k l0).bind fun bt370 => ((impl_TurnFlow.f k bt370.1 bt370.2).bind fun bt376 => ((spec_TurnFlow.f k bt370.1 bt370.2).bind fun bt383 => ((impl_FlowStarts.f k bt370.1 bt370.2).bind fun bt390 => ((spec_FlowStarts.f k bt370.1 bt370.2).bind fun bt394 => ((impl_IdleTime.f k bt370.1 bt370.2).bind fun bt398 => ((spec_IdleTime.f k bt370.1 bt370.2).bind fun bt400 => (if bt376.2.2 = bt383.2.2 then ((laws_likeFlows9.f k bt376.1 bt383.1).bind fun t402 => (if t402 = true then ((laws_likeInts.f k bt376.2.1 bt383.2.1).bind fun t403 => (if t403 = true then (if bt390.2 = bt394.2 then ((laws_likeLists9.f k bt390.1 bt394.1).bind fun t404 => (if t404 = true then (if bt398.2 = bt400.2 then (laws_FnTurnedFlow.j0 k bt370.1 bt370.2 bt376.1 bt376.2.1 bt376.2.2 bt390.1 bt398.1 (bt398.1 != bt400.1)) else (laws_FnTurnedFlow.j0 k bt370.1 bt370.2 bt376.1 bt376.2.1 bt376.2.2 bt390.1 bt398.1 true)) else (laws_FnTurnedFlow.j0 k bt370.1 bt370.2 bt376.1 bt376.2.1 bt376.2.2 bt390.1 bt398.1 true))) else (laws_FnTurnedFlow.j0 k bt370.1 bt370.2 bt376.1 bt376.2.1 bt376.2.2 bt390.1 bt398.1 true)) else (laws_FnTurnedFlow.j0 k bt370.1 bt370.2 bt376.1 bt376.2.1 bt376.2.2 bt390.1 bt398.1 true))) else (laws_FnTurnedFlow.j0 k bt370.1 bt370.2 bt376.1 bt376.2.1 bt376.2.2 bt390.1 bt398.1 true))) else (laws_FnTurnedFlow.j0 k bt370.1 bt370.2 bt376.1 bt376.2.1 bt376.2.2 bt390.1 bt398.1 true))))))))))
theorem laws_FnTurnedFlow.mono_l : ∀ k, (∀ y0 y1 y2 y3 y4 y5 y6 y7, LeO (laws_FnTurnedFlow.j0 k y0 y1 y2 y3 y4 y5 y6 y7) (laws_FnTurnedFlow.j0 (k + 1) y0 y1 y2 y3 y4 y5 y6 y7)) ∧ (∀ y0 y1 y2 y3 y4, LeO (laws_FnTurnedFlow.j1 k y0 y1 y2 y3 y4) (laws_FnTurnedFlow.j1 (k + 1) y0 y1 y2 y3 y4)) ∧ (∀ y0 y1 y2 y3 y4, LeO (laws_FnTurnedFlow.l0 k y0 y1 y2 y3 y4) (laws_FnTurnedFlow.l0 (k + 1) y0 y1 y2 y3 y4)) ∧ (∀ y0 y1 y2 y3 y4 y5 y6, LeO (laws_FnTurnedFlow.j3 k y0 y1 y2 y3 y4 y5 y6) (laws_FnTurnedFlow.j3 (k + 1) y0 y1 y2 y3 y4 y5 y6))
  | 0 => ⟨fun _ _ _ _ _ _ _ _ r h => by simp [laws_FnTurnedFlow.j0] at h, fun _ _ _ _ _ r h => by simp [laws_FnTurnedFlow.j1] at h, fun _ _ _ _ _ r h => by simp [laws_FnTurnedFlow.l0] at h, fun _ _ _ _ _ _ _ r h => by simp [laws_FnTurnedFlow.j3] at h⟩
  | k + 1 => by
    obtain ⟨ih0, ih1, ih2, ih3⟩ := laws_FnTurnedFlow.mono_l k
    refine ⟨?_, ?_, ?_, ?_⟩
    · intro y0 y1 y2 y3 y4 y5 y6 y7
      unfold laws_FnTurnedFlow.j0
      repeat' first
      | (with_reducible exact ih0 _ _ _ _ _ _ _ _)
      | (with_reducible exact ih1 _ _ _ _ _)
      | (with_reducible exact ih2 _ _ _ _ _)
      | (with_reducible exact ih3 _ _ _ _ _ _ _)
      | (with_reducible exact impl_FlowStarts.mono _ _ _)
      | (with_reducible exact impl_IdleTime.mono _ _ _)
      | (with_reducible exact impl_Makespan.mono _ _ _)
      | (with_reducible exact impl_TurnFlow.mono _ _ _)
      | (with_reducible exact laws_likeFlows9.mono _ _ _)
      | (with_reducible exact laws_likeInts.mono _ _ _)
      | (with_reducible exact laws_likeLists9.mono _ _ _)
      | (with_reducible exact spec_DrawTurnFlow.mono _ _)
      | (with_reducible exact spec_FlowStarts.mono _ _ _)
      | (with_reducible exact spec_IdleTime.mono _ _ _)
      | (with_reducible exact spec_TurnFlow.mono _ _ _)
      | (with_reducible exact LeO.refl _)
      | (with_reducible exact LeO.none _)
      | (with_reducible refine LeO.ite ?_ ?_)
      | (with_reducible refine LeO.bind ?_ (fun _ => ?_))
      | exact ih0 _ _ _ _ _ _ _ _
      | exact ih1 _ _ _ _ _
      | exact ih2 _ _ _ _ _
      | exact ih3 _ _ _ _ _ _ _
      | exact impl_FlowStarts.mono _ _ _
      | exact impl_IdleTime.mono _ _ _
      | exact impl_Makespan.mono _ _ _
      | exact impl_TurnFlow.mono _ _ _
      | exact laws_likeFlows9.mono _ _ _
      | exact laws_likeInts.mono _ _ _
      | exact laws_likeLists9.mono _ _ _
      | exact spec_DrawTurnFlow.mono _ _
      | exact spec_FlowStarts.mono _ _ _
      | exact spec_IdleTime.mono _ _ _
      | exact spec_TurnFlow.mono _ _ _
      | exact LeO.none _
      | refine LeO.ite ?_ ?_
      | refine LeO.bind ?_ (fun _ => ?_)
    · intro y0 y1 y2 y3 y4
      unfold laws_FnTurnedFlow.j1
      repeat' first
      | (with_reducible exact ih0 _ _ _ _ _ _ _ _)
      | (with_reducible exact ih1 _ _ _ _ _)
      | (with_reducible exact ih2 _ _ _ _ _)
      | (with_reducible exact ih3 _ _ _ _ _ _ _)
      | (with_reducible exact impl_FlowStarts.mono _ _ _)
      | (with_reducible exact impl_IdleTime.mono _ _ _)
      | (with_reducible exact impl_Makespan.mono _ _ _)
      | (with_reducible exact impl_TurnFlow.mono _ _ _)
      | (with_reducible exact laws_likeFlows9.mono _ _ _)
      | (with_reducible exact laws_likeInts.mono _ _ _)
      | (with_reducible exact laws_likeLists9.mono _ _ _)
      | (with_reducible exact spec_DrawTurnFlow.mono _ _)
      | (with_reducible exact spec_FlowStarts.mono _ _ _)
      | (with_reducible exact spec_IdleTime.mono _ _ _)
      | (with_reducible exact spec_TurnFlow.mono _ _ _)
      | (with_reducible exact LeO.refl _)
      | (with_reducible exact LeO.none _)
      | (with_reducible refine LeO.ite ?_ ?_)
      | (with_reducible refine LeO.bind ?_ (fun _ => ?_))
      | exact ih0 _ _ _ _ _ _ _ _
      | exact ih1 _ _ _ _ _
      | exact ih2 _ _ _ _ _
      | exact ih3 _ _ _ _ _ _ _
      | exact impl_FlowStarts.mono _ _ _
      | exact impl_IdleTime.mono _ _ _
      | exact impl_Makespan.mono _ _ _
      | exact impl_TurnFlow.mono _ _ _
      | exact laws_likeFlows9.mono _ _ _
      | exact laws_likeInts.mono _ _ _
      | exact laws_likeLists9.mono _ _ _
      | exact spec_DrawTurnFlow.mono _ _
      | exact spec_FlowStarts.mono _ _ _
      | exact spec_IdleTime.mono _ _ _
      | exact spec_TurnFlow.mono _ _ _
      | exact LeO.none _
      | refine LeO.ite ?_ ?_
      | refine LeO.bind ?_ (fun _ => ?_)
    · intro y0 y1 y2 y3 y4
      unfold laws_FnTurnedFlow.l0
      repeat' first
      | (with_reducible exact ih0 _ _ _ _ _ _ _ _)
      | (with_reducible exact ih1 _ _ _ _ _)
      | (with_reducible exact ih2 _ _ _ _ _)
      | (with_reducible exact ih3 _ _ _ _ _ _ _)
      | (with_reducible exact impl_FlowStarts.mono _ _ _)
      | (with_reducible exact impl_IdleTime.mono _ _ _)
      | (with_reducible exact impl_Makespan.mono _ _ _)
      | (with_reducible exact impl_TurnFlow.mono _ _ _)
      | (with_reducible exact laws_likeFlows9.mono _ _ _)
      | (with_reducible exact laws_likeInts.mono _ _ _)
      | (with_reducible exact laws_likeLists9.mono _ _ _)
      | (with_reducible exact spec_DrawTurnFlow.mono _ _)
      | (with_reducible exact spec_FlowStarts.mono _ _ _)
      | (with_reducible exact spec_IdleTime.mono _ _ _)
      | (with_reducible exact spec_TurnFlow.mono _ _ _)
      | (with_reducible exact LeO.refl _)
      | (with_reducible exact LeO.none _)
      | (with_reducible refine LeO.ite ?_ ?_)
      | (with_reducible refine LeO.bind ?_ (fun _ => ?_))
      | exact ih0 _ _ _ _ _ _ _ _
      | exact ih1 _ _ _ _ _
      | exact ih2 _ _ _ _ _
      | exact ih3 _ _ _ _ _ _ _
      | exact impl_FlowStarts.mono _ _ _
      | exact impl_IdleTime.mono _ _ _
      | exact impl_Makespan.mono _ _ _
      | exact impl_TurnFlow.mono _ _ _
      | exact laws_likeFlows9.mono _ _ _
      | exact laws_likeInts.mono _ _ _
      | exact laws_likeLists9.mono _ _ _
      | exact spec_DrawTurnFlow.mono _ _
      | exact spec_FlowStarts.mono _ _ _
      | exact spec_IdleTime.mono _ _ _
      | exact spec_TurnFlow.mono _ _ _
      | exact LeO.none _
      | refine LeO.ite ?_ ?_
      | refine LeO.bind ?_ (fun _ => ?_)
    · intro y0 y1 y2 y3 y4 y5 y6
      unfold laws_FnTurnedFlow.j3
      repeat' first
      | (with_reducible exact ih0 _ _ _ _ _ _ _ _)
      | (with_reducible exact ih1 _ _ _ _ _)
      | (with_reducible exact ih2 _ _ _ _ _)
      | (with_reducible exact ih3 _ _ _ _ _ _ _)
      | (with_reducible exact impl_FlowStarts.mono _ _ _)
      | (with_reducible exact impl_IdleTime.mono _ _ _)
      | (with_reducible exact impl_Makespan.mono _ _ _)
      | (with_reducible exact impl_TurnFlow.mono _ _ _)
      | (with_reducible exact laws_likeFlows9.mono _ _ _)
      | (with_reducible exact laws_likeInts.mono _ _ _)
      | (with_reducible exact laws_likeLists9.mono _ _ _)
      | (with_reducible exact spec_DrawTurnFlow.mono _ _)
      | (with_reducible exact spec_FlowStarts.mono _ _ _)
      | (with_reducible exact spec_IdleTime.mono _ _ _)
      | (with_reducible exact spec_TurnFlow.mono _ _ _)
      | (with_reducible exact LeO.refl _)
      | (with_reducible exact LeO.none _)
      | (with_reducible refine LeO.ite ?_ ?_)
      | (with_reducible refine LeO.bind ?_ (fun _ => ?_))
      | exact ih0 _ _ _ _ _ _ _ _
      | exact ih1 _ _ _ _ _
      | exact ih2 _ _ _ _ _
      | exact ih3 _ _ _ _ _ _ _
      | exact impl_FlowStarts.mono _ _ _
      | exact impl_IdleTime.mono _ _ _
      | exact impl_Makespan.mono _ _ _
      | exact impl_TurnFlow.mono _ _ _
      | exact laws_likeFlows9.mono _ _ _
      | exact laws_likeInts.mono _ _ _
      | exact laws_likeLists9.mono _ _ _
      | exact spec_DrawTurnFlow.mono _ _
      | exact spec_FlowStarts.mono _ _ _
      | exact spec_IdleTime.mono _ _ _
      | exact spec_TurnFlow.mono _ _ _
      | exact LeO.none _
      | refine LeO.ite ?_ ?_
      | refine LeO.bind ?_ (fun _ => ?_)
theorem laws_FnTurnedFlow.mono : ∀ a0 k, LeO (laws_FnTurnedFlow.f k a0) (laws_FnTurnedFlow.f (k + 1) a0) := by
  intro a0 k
  obtain ⟨ih0, ih1, ih2, ih3⟩ := laws_FnTurnedFlow.mono_l k
  unfold laws_FnTurnedFlow.f
  repeat' first
      | (with_reducible exact ih0 _ _ _ _ _ _ _ _)
      | (with_reducible exact ih1 _ _ _ _ _)
      | (with_reducible exact ih2 _ _ _ _ _)
      | (with_reducible exact ih3 _ _ _ _ _ _ _)
      | (with_reducible exact impl_FlowStarts.mono _ _ _)
      | (with_reducible exact impl_IdleTime.mono _ _ _)
      | (with_reducible exact impl_Makespan.mono _ _ _)
      | (with_reducible exact impl_TurnFlow.mono _ _ _)
      | (with_reducible exact laws_likeFlows9.mono _ _ _)
      | (with_reducible exact laws_likeInts.mono _ _ _)
      | (with_reducible exact laws_likeLists9.mono _ _ _)
      | (with_reducible exact spec_DrawTurnFlow.mono _ _)
      | (with_reducible exact spec_FlowStarts.mono _ _ _)
      | (with_reducible exact spec_IdleTime.mono _ _ _)
      | (with_reducible exact spec_TurnFlow.mono _ _ _)
      | (with_reducible exact LeO.refl _)
      | (with_reducible exact LeO.none _)
      | (with_reducible refine LeO.ite ?_ ?_)
      | (with_reducible refine LeO.bind ?_ (fun _ => ?_))
      | exact ih0 _ _ _ _ _ _ _ _
      | exact ih1 _ _ _ _ _
      | exact ih2 _ _ _ _ _
      | exact ih3 _ _ _ _ _ _ _
      | exact impl_FlowStarts.mono _ _ _
      | exact impl_IdleTime.mono _ _ _
      | exact impl_Makespan.mono _ _ _
      | exact impl_TurnFlow.mono _ _ _
      | exact laws_likeFlows9.mono _ _ _
      | exact laws_likeInts.mono _ _ _
      | exact laws_likeLists9.mono _ _ _
      | exact spec_DrawTurnFlow.mono _ _
      | exact spec_FlowStarts.mono _ _ _
      | exact spec_IdleTime.mono _ _ _
      | exact spec_TurnFlow.mono _ _ _
      | exact LeO.none _
      | refine LeO.ite ?_ ?_
      | refine LeO.bind ?_ (fun _ => ?_)
set_option maxHeartbeats 8000000 in
set_option maxRecDepth 100000 in
theorem laws_FnTurnedFlow.calls (k : Nat) (A0 : Option Addr) (c0 : Nat) (l0 : List Int) (r : Bool) (w : World) (hT : Aside0 (r = true)) (hr0 : Kd.C (Kd.int .u8) w A0 l0.length l0) (hc0 : l0.length ≤ c0) (h : laws_FnTurnedFlow.f k l0 = some r) :
    Calls Try.prog 6 #[.slice A0 l0.length c0] w fun e w' => e = .returned (.bool r) ∧ Below w.heap.size w w' := by
  have HR0 := Aside0.mk hr0
  have HC0 := Aside0.mk hc0
  clear hr0 hc0
  have HB := Aside0.mk (Below.refl w.heap.size w)
  have H : ((laws_big.f l0).bind fun t369 => (if t369 = true then (some true) else ((spec_DrawTurnFlow.f k l0).bind fun bt370 => ((impl_TurnFlow.f k bt370.1 bt370.2).bind fun bt376 => ((spec_TurnFlow.f k bt370.1 bt370.2).bind fun bt383 => ((impl_FlowStarts.f k bt370.1 bt370.2).bind fun bt390 => ((spec_FlowStarts.f k bt370.1 bt370.2).bind fun bt394 => ((impl_IdleTime.f k bt370.1 bt370.2).bind fun bt398 => ((spec_IdleTime.f k bt370.1 bt370.2).bind fun bt400 => (if bt376.2.2 = bt383.2.2 then ((laws_likeFlows9.f k bt376.1 bt383.1).bind fun t402 => (if t402 = true then ((laws_likeInts.f k bt376.2.1 bt383.2.1).bind fun t403 => (if t403 = true then (if bt390.2 = bt394.2 then ((laws_likeLists9.f k bt390.1 bt394.1).bind fun t404 => (if t404 = true then (if bt398.2 = bt400.2 then (laws_FnTurnedFlow.j0 k bt370.1 bt370.2 bt376.1 bt376.2.1 bt376.2.2 bt390.1 bt398.1 (bt398.1 != bt400.1)) else (laws_FnTurnedFlow.j0 k bt370.1 bt370.2 bt376.1 bt376.2.1 bt376.2.2 bt390.1 bt398.1 true)) else (laws_FnTurnedFlow.j0 k bt370.1 bt370.2 bt376.1 bt376.2.1 bt376.2.2 bt390.1 bt398.1 true))) else (laws_FnTurnedFlow.j0 k bt370.1 bt370.2 bt376.1 bt376.2.1 bt376.2.2 bt390.1 bt398.1 true)) else (laws_FnTurnedFlow.j0 k bt370.1 bt370.2 bt376.1 bt376.2.1 bt376.2.2 bt390.1 bt398.1 true))) else (laws_FnTurnedFlow.j0 k bt370.1 bt370.2 bt376.1 bt376.2.1 bt376.2.2 bt390.1 bt398.1 true))) else (laws_FnTurnedFlow.j0 k bt370.1 bt370.2 bt376.1 bt376.2.1 bt376.2.2 bt390.1 bt398.1 true))))))))))) = some r := h
  clear h
  replace H := Option.bind_eq_some_iff.mp H
  obtain ⟨t369, A20, H⟩ := H
  replace H : (if t369 = true then (some true) else ((spec_DrawTurnFlow.f k l0).bind fun bt370 => ((impl_TurnFlow.f k bt370.1 bt370.2).bind fun bt376 => ((spec_TurnFlow.f k bt370.1 bt370.2).bind fun bt383 => ((impl_FlowStarts.f k bt370.1 bt370.2).bind fun bt390 => ((spec_FlowStarts.f k bt370.1 bt370.2).bind fun bt394 => ((impl_IdleTime.f k bt370.1 bt370.2).bind fun bt398 => ((spec_IdleTime.f k bt370.1 bt370.2).bind fun bt400 => (if bt376.2.2 = bt383.2.2 then ((laws_likeFlows9.f k bt376.1 bt383.1).bind fun t402 => (if t402 = true then ((laws_likeInts.f k bt376.2.1 bt383.2.1).bind fun t403 => (if t403 = true then (if bt390.2 = bt394.2 then ((laws_likeLists9.f k bt390.1 bt394.1).bind fun t404 => (if t404 = true then (if bt398.2 = bt400.2 then (laws_FnTurnedFlow.j0 k bt370.1 bt370.2 bt376.1 bt376.2.1 bt376.2.2 bt390.1 bt398.1 (bt398.1 != bt400.1)) else (laws_FnTurnedFlow.j0 k bt370.1 bt370.2 bt376.1 bt376.2.1 bt376.2.2 bt390.1 bt398.1 true)) else (laws_FnTurnedFlow.j0 k bt370.1 bt370.2 bt376.1 bt376.2.1 bt376.2.2 bt390.1 bt398.1 true))) else (laws_FnTurnedFlow.j0 k bt370.1 bt370.2 bt376.1 bt376.2.1 bt376.2.2 bt390.1 bt398.1 true)) else (laws_FnTurnedFlow.j0 k bt370.1 bt370.2 bt376.1 bt376.2.1 bt376.2.2 bt390.1 bt398.1 true))) else (laws_FnTurnedFlow.j0 k bt370.1 bt370.2 bt376.1 bt376.2.1 bt376.2.2 bt390.1 bt398.1 true))) else (laws_FnTurnedFlow.j0 k bt370.1 bt370.2 bt376.1 bt376.2.1 bt376.2.2 bt390.1 bt398.1 true)))))))))) = some r := H
  have A2 := Aside0.mk A20
  clear A20
  by_cases c3 : t369 = true
  · subst c3
    have H1 : (some true) = some r := by rw [if_pos rfl] at H; exact H
    clear H
    have H := H1
    clear H1
    obtain rfl := Option.some.inj H
    go_enter Try.func6, Try.ntmps6
    as_aux_lemma =>
      go_wp2_with (first | (go_at_call 33; (with_reducible refine (laws_big.calls _ _ l0 true _ ?side1 ?side2 A2.out).mono ?_); (case side1 => repeat (first | exact HR0.out | (with_reducible refine Kd.C_alloc ?_ _) | (with_reducible refine Kd.C_drewN ?_ _) | (with_reducible refine Kd.C_drew ?_))); (case side2 => exact HC0.out); rintro e w' ⟨rfl, ⟨nd, rfl⟩⟩; (try first | exact ⟨rfl, _, World.drewN_drewN _ _ _⟩ | exact ⟨rfl, _, Eq.trans (World.drewN_drewN _ _ _) (congrArg (World.drewN _) (Nat.add_assoc _ _ _))⟩)))
      repeat (go_quiet (first | (go_at_call 33; (with_reducible refine (laws_big.calls _ _ l0 true _ ?side1 ?side2 A2.out).mono ?_); (case side1 => repeat (first | exact HR0.out | (with_reducible refine Kd.C_alloc ?_ _) | (with_reducible refine Kd.C_drewN ?_ _) | (with_reducible refine Kd.C_drew ?_))); (case side2 => exact HC0.out); rintro e w' ⟨rfl, ⟨nd, rfl⟩⟩; (try first | exact ⟨rfl, _, World.drewN_drewN _ _ _⟩ | exact ⟨rfl, _, Eq.trans (World.drewN_drewN _ _ _) (congrArg (World.drewN _) (Nat.add_assoc _ _ _))⟩))); try go_wp2_with (first | (go_at_call 33; (with_reducible refine (laws_big.calls _ _ l0 true _ ?side1 ?side2 A2.out).mono ?_); (case side1 => repeat (first | exact HR0.out | (with_reducible refine Kd.C_alloc ?_ _) | (with_reducible refine Kd.C_drewN ?_ _) | (with_reducible refine Kd.C_drew ?_))); (case side2 => exact HC0.out); rintro e w' ⟨rfl, ⟨nd, rfl⟩⟩; (try first | exact ⟨rfl, _, World.drewN_drewN _ _ _⟩ | exact ⟨rfl, _, Eq.trans (World.drewN_drewN _ _ _) (congrArg (World.drewN _) (Nat.add_assoc _ _ _))⟩))))
      go_ret
      exact ⟨by first | rfl | (simp [errW_none, errW_some] <;> rfl) | (simp [*, errW_none, errW_some] <;> rfl), by repeat (first | (with_reducible first | exact HB.out | apply below_alloc | apply pw_below_drewN | apply below_drew1) | exact HB.out)⟩
  · replace c3 := Bool.eq_false_iff.mpr c3
    subst c3
    have H1 : ((spec_DrawTurnFlow.f k l0).bind fun bt370 => ((impl_TurnFlow.f k bt370.1 bt370.2).bind fun bt376 => ((spec_TurnFlow.f k bt370.1 bt370.2).bind fun bt383 => ((impl_FlowStarts.f k bt370.1 bt370.2).bind fun bt390 => ((spec_FlowStarts.f k bt370.1 bt370.2).bind fun bt394 => ((impl_IdleTime.f k bt370.1 bt370.2).bind fun bt398 => ((spec_IdleTime.f k bt370.1 bt370.2).bind fun bt400 => (if bt376.2.2 = bt383.2.2 then ((laws_likeFlows9.f k bt376.1 bt383.1).bind fun t402 => (if t402 = true then ((laws_likeInts.f k bt376.2.1 bt383.2.1).bind fun t403 => (if t403 = true then (if bt390.2 = bt394.2 then ((laws_likeLists9.f k bt390.1 bt394.1).bind fun t404 => (if t404 = true then (if bt398.2 = bt400.2 then (laws_FnTurnedFlow.j0 k bt370.1 bt370.2 bt376.1 bt376.2.1 bt376.2.2 bt390.1 bt398.1 (bt398.1 != bt400.1)) else (laws_FnTurnedFlow.j0 k bt370.1 bt370.2 bt376.1 bt376.2.1 bt376.2.2 bt390.1 bt398.1 true)) else (laws_FnTurnedFlow.j0 k bt370.1 bt370.2 bt376.1 bt376.2.1 bt376.2.2 bt390.1 bt398.1 true))) else (laws_FnTurnedFlow.j0 k bt370.1 bt370.2 bt376.1 bt376.2.1 bt376.2.2 bt390.1 bt398.1 true)) else (laws_FnTurnedFlow.j0 k bt370.1 bt370.2 bt376.1 bt376.2.1 bt376.2.2 bt390.1 bt398.1 true))) else (laws_FnTurnedFlow.j0 k bt370.1 bt370.2 bt376.1 bt376.2.1 bt376.2.2 bt390.1 bt398.1 true))) else (laws_FnTurnedFlow.j0 k bt370.1 bt370.2 bt376.1 bt376.2.1 bt376.2.2 bt390.1 bt398.1 true))))))))) = some r := by rw [if_neg (show ¬ (false = true) by decide)] at H; exact H
    clear H
    have H := H1
    clear H1
    replace H := Option.bind_eq_some_iff.mp H
    obtain ⟨⟨t370, t371⟩, A40, H⟩ := H
    replace H : ((impl_TurnFlow.f k t370 t371).bind fun bt376 => ((spec_TurnFlow.f k t370 t371).bind fun bt383 => ((impl_FlowStarts.f k t370 t371).bind fun bt390 => ((spec_FlowStarts.f k t370 t371).bind fun bt394 => ((impl_IdleTime.f k t370 t371).bind fun bt398 => ((spec_IdleTime.f k t370 t371).bind fun bt400 => (if bt376.2.2 = bt383.2.2 then ((laws_likeFlows9.f k bt376.1 bt383.1).bind fun t402 => (if t402 = true then ((laws_likeInts.f k bt376.2.1 bt383.2.1).bind fun t403 => (if t403 = true then (if bt390.2 = bt394.2 then ((laws_likeLists9.f k bt390.1 bt394.1).bind fun t404 => (if t404 = true then (if bt398.2 = bt400.2 then (laws_FnTurnedFlow.j0 k t370 t371 bt376.1 bt376.2.1 bt376.2.2 bt390.1 bt398.1 (bt398.1 != bt400.1)) else (laws_FnTurnedFlow.j0 k t370 t371 bt376.1 bt376.2.1 bt376.2.2 bt390.1 bt398.1 true)) else (laws_FnTurnedFlow.j0 k t370 t371 bt376.1 bt376.2.1 bt376.2.2 bt390.1 bt398.1 true))) else (laws_FnTurnedFlow.j0 k t370 t371 bt376.1 bt376.2.1 bt376.2.2 bt390.1 bt398.1 true)) else (laws_FnTurnedFlow.j0 k t370 t371 bt376.1 bt376.2.1 bt376.2.2 bt390.1 bt398.1 true))) else (laws_FnTurnedFlow.j0 k t370 t371 bt376.1 bt376.2.1 bt376.2.2 bt390.1 bt398.1 true))) else (laws_FnTurnedFlow.j0 k t370 t371 bt376.1 bt376.2.1 bt376.2.2 bt390.1 bt398.1 true)))))))) = some r := H
    have A4 := Aside0.mk A40
    clear A40
    replace H := Option.bind_eq_some_iff.mp H
    obtain ⟨⟨t376, t377, t378⟩, A50, H⟩ := H
    replace H : ((spec_TurnFlow.f k t370 t371).bind fun bt383 => ((impl_FlowStarts.f k t370 t371).bind fun bt390 => ((spec_FlowStarts.f k t370 t371).bind fun bt394 => ((impl_IdleTime.f k t370 t371).bind fun bt398 => ((spec_IdleTime.f k t370 t371).bind fun bt400 => (if t378 = bt383.2.2 then ((laws_likeFlows9.f k t376 bt383.1).bind fun t402 => (if t402 = true then ((laws_likeInts.f k t377 bt383.2.1).bind fun t403 => (if t403 = true then (if bt390.2 = bt394.2 then ((laws_likeLists9.f k bt390.1 bt394.1).bind fun t404 => (if t404 = true then (if bt398.2 = bt400.2 then (laws_FnTurnedFlow.j0 k t370 t371 t376 t377 t378 bt390.1 bt398.1 (bt398.1 != bt400.1)) else (laws_FnTurnedFlow.j0 k t370 t371 t376 t377 t378 bt390.1 bt398.1 true)) else (laws_FnTurnedFlow.j0 k t370 t371 t376 t377 t378 bt390.1 bt398.1 true))) else (laws_FnTurnedFlow.j0 k t370 t371 t376 t377 t378 bt390.1 bt398.1 true)) else (laws_FnTurnedFlow.j0 k t370 t371 t376 t377 t378 bt390.1 bt398.1 true))) else (laws_FnTurnedFlow.j0 k t370 t371 t376 t377 t378 bt390.1 bt398.1 true))) else (laws_FnTurnedFlow.j0 k t370 t371 t376 t377 t378 bt390.1 bt398.1 true))))))) = some r := H
    have A5 := Aside0.mk A50
    clear A50
    replace H := Option.bind_eq_some_iff.mp H
    obtain ⟨⟨t383, t384, t385⟩, A60, H⟩ := H
    replace H : ((impl_FlowStarts.f k t370 t371).bind fun bt390 => ((spec_FlowStarts.f k t370 t371).bind fun bt394 => ((impl_IdleTime.f k t370 t371).bind fun bt398 => ((spec_IdleTime.f k t370 t371).bind fun bt400 => (if t378 = t385 then ((laws_likeFlows9.f k t376 t383).bind fun t402 => (if t402 = true then ((laws_likeInts.f k t377 t384).bind fun t403 => (if t403 = true then (if bt390.2 = bt394.2 then ((laws_likeLists9.f k bt390.1 bt394.1).bind fun t404 => (if t404 = true then (if bt398.2 = bt400.2 then (laws_FnTurnedFlow.j0 k t370 t371 t376 t377 t378 bt390.1 bt398.1 (bt398.1 != bt400.1)) else (laws_FnTurnedFlow.j0 k t370 t371 t376 t377 t378 bt390.1 bt398.1 true)) else (laws_FnTurnedFlow.j0 k t370 t371 t376 t377 t378 bt390.1 bt398.1 true))) else (laws_FnTurnedFlow.j0 k t370 t371 t376 t377 t378 bt390.1 bt398.1 true)) else (laws_FnTurnedFlow.j0 k t370 t371 t376 t377 t378 bt390.1 bt398.1 true))) else (laws_FnTurnedFlow.j0 k t370 t371 t376 t377 t378 bt390.1 bt398.1 true))) else (laws_FnTurnedFlow.j0 k t370 t371 t376 t377 t378 bt390.1 bt398.1 true)))))) = some r := H
    have A6 := Aside0.mk A60
    clear A60
    replace H := Option.bind_eq_some_iff.mp H
    obtain ⟨⟨t390, t391⟩, A70, H⟩ := H
    replace H : ((spec_FlowStarts.f k t370 t371).bind fun bt394 => ((impl_IdleTime.f k t370 t371).bind fun bt398 => ((spec_IdleTime.f k t370 t371).bind fun bt400 => (if t378 = t385 then ((laws_likeFlows9.f k t376 t383).bind fun t402 => (if t402 = true then ((laws_likeInts.f k t377 t384).bind fun t403 => (if t403 = true then (if t391 = bt394.2 then ((laws_likeLists9.f k t390 bt394.1).bind fun t404 => (if t404 = true then (if bt398.2 = bt400.2 then (laws_FnTurnedFlow.j0 k t370 t371 t376 t377 t378 t390 bt398.1 (bt398.1 != bt400.1)) else (laws_FnTurnedFlow.j0 k t370 t371 t376 t377 t378 t390 bt398.1 true)) else (laws_FnTurnedFlow.j0 k t370 t371 t376 t377 t378 t390 bt398.1 true))) else (laws_FnTurnedFlow.j0 k t370 t371 t376 t377 t378 t390 bt398.1 true)) else (laws_FnTurnedFlow.j0 k t370 t371 t376 t377 t378 t390 bt398.1 true))) else (laws_FnTurnedFlow.j0 k t370 t371 t376 t377 t378 t390 bt398.1 true))) else (laws_FnTurnedFlow.j0 k t370 t371 t376 t377 t378 t390 bt398.1 true))))) = some r := H
    have A7 := Aside0.mk A70
    clear A70
    replace H := Option.bind_eq_some_iff.mp H
    obtain ⟨⟨t394, t395⟩, A80, H⟩ := H
    replace H : ((impl_IdleTime.f k t370 t371).bind fun bt398 => ((spec_IdleTime.f k t370 t371).bind fun bt400 => (if t378 = t385 then ((laws_likeFlows9.f k t376 t383).bind fun t402 => (if t402 = true then ((laws_likeInts.f k t377 t384).bind fun t403 => (if t403 = true then (if t391 = t395 then ((laws_likeLists9.f k t390 t394).bind fun t404 => (if t404 = true then (if bt398.2 = bt400.2 then (laws_FnTurnedFlow.j0 k t370 t371 t376 t377 t378 t390 bt398.1 (bt398.1 != bt400.1)) else (laws_FnTurnedFlow.j0 k t370 t371 t376 t377 t378 t390 bt398.1 true)) else (laws_FnTurnedFlow.j0 k t370 t371 t376 t377 t378 t390 bt398.1 true))) else (laws_FnTurnedFlow.j0 k t370 t371 t376 t377 t378 t390 bt398.1 true)) else (laws_FnTurnedFlow.j0 k t370 t371 t376 t377 t378 t390 bt398.1 true))) else (laws_FnTurnedFlow.j0 k t370 t371 t376 t377 t378 t390 bt398.1 true))) else (laws_FnTurnedFlow.j0 k t370 t371 t376 t377 t378 t390 bt398.1 true)))) = some r := H
    have A8 := Aside0.mk A80
    clear A80
    replace H := Option.bind_eq_some_iff.mp H
    obtain ⟨⟨t398, t399⟩, A90, H⟩ := H
    replace H : ((spec_IdleTime.f k t370 t371).bind fun bt400 => (if t378 = t385 then ((laws_likeFlows9.f k t376 t383).bind fun t402 => (if t402 = true then ((laws_likeInts.f k t377 t384).bind fun t403 => (if t403 = true then (if t391 = t395 then ((laws_likeLists9.f k t390 t394).bind fun t404 => (if t404 = true then (if t399 = bt400.2 then (laws_FnTurnedFlow.j0 k t370 t371 t376 t377 t378 t390 t398 (t398 != bt400.1)) else (laws_FnTurnedFlow.j0 k t370 t371 t376 t377 t378 t390 t398 true)) else (laws_FnTurnedFlow.j0 k t370 t371 t376 t377 t378 t390 t398 true))) else (laws_FnTurnedFlow.j0 k t370 t371 t376 t377 t378 t390 t398 true)) else (laws_FnTurnedFlow.j0 k t370 t371 t376 t377 t378 t390 t398 true))) else (laws_FnTurnedFlow.j0 k t370 t371 t376 t377 t378 t390 t398 true))) else (laws_FnTurnedFlow.j0 k t370 t371 t376 t377 t378 t390 t398 true))) = some r := H
    have A9 := Aside0.mk A90
    clear A90
    replace H := Option.bind_eq_some_iff.mp H
    obtain ⟨⟨t400, t401⟩, A100, H⟩ := H
    replace H : (if t378 = t385 then ((laws_likeFlows9.f k t376 t383).bind fun t402 => (if t402 = true then ((laws_likeInts.f k t377 t384).bind fun t403 => (if t403 = true then (if t391 = t395 then ((laws_likeLists9.f k t390 t394).bind fun t404 => (if t404 = true then (if t399 = t401 then (laws_FnTurnedFlow.j0 k t370 t371 t376 t377 t378 t390 t398 (t398 != t400)) else (laws_FnTurnedFlow.j0 k t370 t371 t376 t377 t378 t390 t398 true)) else (laws_FnTurnedFlow.j0 k t370 t371 t376 t377 t378 t390 t398 true))) else (laws_FnTurnedFlow.j0 k t370 t371 t376 t377 t378 t390 t398 true)) else (laws_FnTurnedFlow.j0 k t370 t371 t376 t377 t378 t390 t398 true))) else (laws_FnTurnedFlow.j0 k t370 t371 t376 t377 t378 t390 t398 true))) else (laws_FnTurnedFlow.j0 k t370 t371 t376 t377 t378 t390 t398 true)) = some r := H
    have A10 := Aside0.mk A100
    clear A100
    have HC11 := Aside0.mk H
    clear H
    go_enter Try.func6, Try.ntmps6
    go_upto_region 10 with (first | (go_at_call 33; (with_reducible refine (laws_big.calls _ _ l0 false _ ?side1 ?side2 A2.out).mono ?_); (case side1 => repeat (first | exact HR0.out | (with_reducible refine Kd.C_alloc ?_ _) | (with_reducible refine Kd.C_drewN ?_ _) | (with_reducible refine Kd.C_drew ?_))); (case side2 => exact HC0.out); rintro e w' ⟨rfl, ⟨nd, rfl⟩⟩; (try first | exact ⟨rfl, _, World.drewN_drewN _ _ _⟩ | exact ⟨rfl, _, Eq.trans (World.drewN_drewN _ _ _) (congrArg (World.drewN _) (Nat.add_assoc _ _ _))⟩)) | (go_at_call 44; (with_reducible refine (spec_DrawTurnFlow.calls k _ _ l0 t370 t371 _ ?side1 ?side2 A4.out).mono ?_); (case side1 => repeat (first | exact HR0.out | (with_reducible refine Kd.C_alloc ?_ _) | (with_reducible refine Kd.C_drewN ?_ _) | (with_reducible refine Kd.C_drew ?_))); (case side2 => exact HC0.out); rintro e w12 ⟨v372, v374, rfl, ho0, ho1, hb⟩; have n0_ := Aside0.mk (Kd.R_lower ho0 (below_size (by repeat (first | (with_reducible first | exact HB.out | apply below_alloc | apply pw_below_drewN | apply below_drew1) | exact HB.out)))); have n1_ := Aside0.mk (Kd.R_lower ho1 (below_size (by repeat (first | (with_reducible first | exact HB.out | apply below_alloc | apply pw_below_drewN | apply below_drew1) | exact HB.out)))); have n2_ := Aside0.mk (below_step (by repeat (first | (with_reducible first | exact HB.out | apply below_alloc | apply pw_below_drewN | apply below_drew1) | exact HB.out)) hb); clear HB; have HO373 := n0_; have HO375 := n1_; have HB := n2_; clear n0_ n1_ n2_; (try clear hb); (try clear hb2); (try clear hk); (try clear hi); (try clear ho0); (try clear ho1); obtain ⟨Ao13, co13, eo13⟩ := Kd.R_slice HO373.out; subst eo13; obtain ⟨Ao14, co14, eo14⟩ := Kd.R_slice HO375.out; subst eo14) | (go_at_call 45; (with_reducible refine (impl_TurnFlow.calls k _ _ t370 _ _ t371 t376 t377 t378 _ ?side1 ?side2 ?side3 ?side4 A5.out).mono ?_); (case side1 => repeat (first | exact (Kd.R_reads' HO373.out).2.2 | (with_reducible refine Kd.C_alloc ?_ _) | (with_reducible refine Kd.C_drewN ?_ _) | (with_reducible refine Kd.C_drew ?_))); (case side2 => exact (Kd.R_reads' HO373.out).2.1); (case side3 => repeat (first | exact (Kd.R_reads' HO375.out).2.2 | (with_reducible refine Kd.C_alloc ?_ _) | (with_reducible refine Kd.C_drewN ?_ _) | (with_reducible refine Kd.C_drew ?_))); (case side4 => exact (Kd.R_reads' HO375.out).2.1); rintro e w15 ⟨v379, v381, rfl, ho0, ho1, hb⟩; have n0_ := Aside0.mk (Kd.R_elder' (by (with_reducible repeat (first | apply Kd.R_alloc | apply Kd.R_drewN | apply Kd.R_drew)); exact HO373.out) (Kd.R_base ho0) hb); have n1_ := Aside0.mk (Kd.R_elder' (by (with_reducible repeat (first | apply Kd.R_alloc | apply Kd.R_drewN | apply Kd.R_drew)); exact HO375.out) (Kd.R_base ho1) hb); have n2_ := Aside0.mk (Kd.R_lower (Kd.R_new' ho0 (Kd.R_lt (by (with_reducible repeat (first | apply Kd.R_alloc | apply Kd.R_drewN | apply Kd.R_drew)); exact HO373.out))) (below_size (by repeat (first | (with_reducible first | exact HB.out | apply below_alloc | apply pw_below_drewN | apply below_drew1) | exact HB.out)))); have n3_ := Aside0.mk (Kd.R_lower (Kd.R_new' ho1 (Kd.R_lt (by (with_reducible repeat (first | apply Kd.R_alloc | apply Kd.R_drewN | apply Kd.R_drew)); exact HO375.out))) (below_size (by repeat (first | (with_reducible first | exact HB.out | apply below_alloc | apply pw_below_drewN | apply below_drew1) | exact HB.out)))); have n4_ := Aside0.mk (below_step (by repeat (first | (with_reducible first | exact HB.out | apply below_alloc | apply pw_below_drewN | apply below_drew1) | exact HB.out)) hb); clear HO373; clear HO375; clear HB; have HO373 := n0_; have HO375 := n1_; have HO380 := n2_; have HO382 := n3_; have HB := n4_; clear n0_ n1_ n2_ n3_ n4_; (try clear hb); (try clear hb2); (try clear hk); (try clear hi); (try clear ho0); (try clear ho1)) | (go_at_call 46; (with_reducible refine (spec_TurnFlow.calls k _ _ t370 _ _ t371 t383 t384 t385 _ ?side1 ?side2 ?side3 ?side4 A6.out).mono ?_); (case side1 => repeat (first | exact (Kd.R_reads' HO373.out).2.2 | (with_reducible refine Kd.C_alloc ?_ _) | (with_reducible refine Kd.C_drewN ?_ _) | (with_reducible refine Kd.C_drew ?_))); (case side2 => exact (Kd.R_reads' HO373.out).2.1); (case side3 => repeat (first | exact (Kd.R_reads' HO375.out).2.2 | (with_reducible refine Kd.C_alloc ?_ _) | (with_reducible refine Kd.C_drewN ?_ _) | (with_reducible refine Kd.C_drew ?_))); (case side4 => exact (Kd.R_reads' HO375.out).2.1); rintro e w16 ⟨v386, v388, rfl, ho0, ho1, hb⟩; have n0_ := Aside0.mk (Kd.R_elder' (by (with_reducible repeat (first | apply Kd.R_alloc | apply Kd.R_drewN | apply Kd.R_drew)); exact HO373.out) (Kd.R_base ho0) hb); have n1_ := Aside0.mk (Kd.R_elder' (by (with_reducible repeat (first | apply Kd.R_alloc | apply Kd.R_drewN | apply Kd.R_drew)); exact HO375.out) (Kd.R_base ho1) hb); have n2_ := Aside0.mk (Kd.R_elder' (by (with_reducible repeat (first | apply Kd.R_alloc | apply Kd.R_drewN | apply Kd.R_drew)); exact HO380.out) (Kd.R_base ho0) hb); have n3_ := Aside0.mk (Kd.R_elder' (by (with_reducible repeat (first | apply Kd.R_alloc | apply Kd.R_drewN | apply Kd.R_drew)); exact HO382.out) (Kd.R_base ho1) hb); have n4_ := Aside0.mk (Kd.R_lower (Kd.R_new' (Kd.R_new' ho0 (Kd.R_lt (by (with_reducible repeat (first | apply Kd.R_alloc | apply Kd.R_drewN | apply Kd.R_drew)); exact HO373.out))) (Kd.R_lt (by (with_reducible repeat (first | apply Kd.R_alloc | apply Kd.R_drewN | apply Kd.R_drew)); exact HO380.out))) (below_size (by repeat (first | (with_reducible first | exact HB.out | apply below_alloc | apply pw_below_drewN | apply below_drew1) | exact HB.out)))); have n5_ := Aside0.mk (Kd.R_lower (Kd.R_new' (Kd.R_new' ho1 (Kd.R_lt (by (with_reducible repeat (first | apply Kd.R_alloc | apply Kd.R_drewN | apply Kd.R_drew)); exact HO375.out))) (Kd.R_lt (by (with_reducible repeat (first | apply Kd.R_alloc | apply Kd.R_drewN | apply Kd.R_drew)); exact HO382.out))) (below_size (by repeat (first | (with_reducible first | exact HB.out | apply below_alloc | apply pw_below_drewN | apply below_drew1) | exact HB.out)))); have n6_ := Aside0.mk (below_step (by repeat (first | (with_reducible first | exact HB.out | apply below_alloc | apply pw_below_drewN | apply below_drew1) | exact HB.out)) hb); clear HO373; clear HO375; clear HO380; clear HO382; clear HB; have HO373 := n0_; have HO375 := n1_; have HO380 := n2_; have HO382 := n3_; have HO387 := n4_; have HO389 := n5_; have HB := n6_; clear n0_ n1_ n2_ n3_ n4_ n5_ n6_; (try clear hb); (try clear hb2); (try clear hk); (try clear hi); (try clear ho0); (try clear ho1)) | (go_at_call 18; (with_reducible refine (impl_FlowStarts.calls k _ _ t370 _ _ t371 t390 t391 _ ?side1 ?side2 ?side3 ?side4 A7.out).mono ?_); (case side1 => repeat (first | exact (Kd.R_reads' HO373.out).2.2 | (with_reducible refine Kd.C_alloc ?_ _) | (with_reducible refine Kd.C_drewN ?_ _) | (with_reducible refine Kd.C_drew ?_))); (case side2 => exact (Kd.R_reads' HO373.out).2.1); (case side3 => repeat (first | exact (Kd.R_reads' HO375.out).2.2 | (with_reducible refine Kd.C_alloc ?_ _) | (with_reducible refine Kd.C_drewN ?_ _) | (with_reducible refine Kd.C_drew ?_))); (case side4 => exact (Kd.R_reads' HO375.out).2.1); rintro e w17 ⟨v392, rfl, ho0, hb⟩; have n0_ := Aside0.mk (Kd.R_below (by (with_reducible repeat (first | apply Kd.R_alloc | apply Kd.R_drewN | apply Kd.R_drew)); exact HO373.out) hb); have n1_ := Aside0.mk (Kd.R_below (by (with_reducible repeat (first | apply Kd.R_alloc | apply Kd.R_drewN | apply Kd.R_drew)); exact HO375.out) hb); have n2_ := Aside0.mk (Kd.R_below (by (with_reducible repeat (first | apply Kd.R_alloc | apply Kd.R_drewN | apply Kd.R_drew)); exact HO380.out) hb); have n3_ := Aside0.mk (Kd.R_below (by (with_reducible repeat (first | apply Kd.R_alloc | apply Kd.R_drewN | apply Kd.R_drew)); exact HO382.out) hb); have n4_ := Aside0.mk (Kd.R_below (by (with_reducible repeat (first | apply Kd.R_alloc | apply Kd.R_drewN | apply Kd.R_drew)); exact HO387.out) hb); have n5_ := Aside0.mk (Kd.R_below (by (with_reducible repeat (first | apply Kd.R_alloc | apply Kd.R_drewN | apply Kd.R_drew)); exact HO389.out) hb); have n6_ := Aside0.mk (Kd.S_lower (Kd.S_new' (Kd.S_new' (Kd.S_new' ho0 (Kd.R_lt (by (with_reducible repeat (first | apply Kd.R_alloc | apply Kd.R_drewN | apply Kd.R_drew)); exact HO375.out))) (Kd.R_lt (by (with_reducible repeat (first | apply Kd.R_alloc | apply Kd.R_drewN | apply Kd.R_drew)); exact HO382.out))) (Kd.R_lt (by (with_reducible repeat (first | apply Kd.R_alloc | apply Kd.R_drewN | apply Kd.R_drew)); exact HO389.out))) (below_size (by repeat (first | (with_reducible first | exact HB.out | apply below_alloc | apply pw_below_drewN | apply below_drew1) | exact HB.out)))); have n7_ := Aside0.mk (below_step (by repeat (first | (with_reducible first | exact HB.out | apply below_alloc | apply pw_below_drewN | apply below_drew1) | exact HB.out)) hb); clear HO373; clear HO375; clear HO380; clear HO382; clear HO387; clear HO389; clear HB; have HO373 := n0_; have HO375 := n1_; have HO380 := n2_; have HO382 := n3_; have HO387 := n4_; have HO389 := n5_; have HO393 := n6_; have HB := n7_; clear n0_ n1_ n2_ n3_ n4_ n5_ n6_ n7_; (try clear hb); (try clear hb2); (try clear hk); (try clear hi); (try clear ho0)) | (go_at_call 15; (with_reducible refine (spec_FlowStarts.calls k _ _ t370 _ _ t371 t394 t395 _ ?side1 ?side2 ?side3 ?side4 A8.out).mono ?_); (case side1 => repeat (first | exact (Kd.R_reads' HO373.out).2.2 | (with_reducible refine Kd.C_alloc ?_ _) | (with_reducible refine Kd.C_drewN ?_ _) | (with_reducible refine Kd.C_drew ?_))); (case side2 => exact (Kd.R_reads' HO373.out).2.1); (case side3 => repeat (first | exact (Kd.R_reads' HO375.out).2.2 | (with_reducible refine Kd.C_alloc ?_ _) | (with_reducible refine Kd.C_drewN ?_ _) | (with_reducible refine Kd.C_drew ?_))); (case side4 => exact (Kd.R_reads' HO375.out).2.1); rintro e w18 ⟨v396, rfl, ho0, hb⟩; have n0_ := Aside0.mk (Kd.R_below (by (with_reducible repeat (first | apply Kd.R_alloc | apply Kd.R_drewN | apply Kd.R_drew)); exact HO373.out) hb); have n1_ := Aside0.mk (Kd.R_below (by (with_reducible repeat (first | apply Kd.R_alloc | apply Kd.R_drewN | apply Kd.R_drew)); exact HO375.out) hb); have n2_ := Aside0.mk (Kd.R_below (by (with_reducible repeat (first | apply Kd.R_alloc | apply Kd.R_drewN | apply Kd.R_drew)); exact HO380.out) hb); have n3_ := Aside0.mk (Kd.R_below (by (with_reducible repeat (first | apply Kd.R_alloc | apply Kd.R_drewN | apply Kd.R_drew)); exact HO382.out) hb); have n4_ := Aside0.mk (Kd.R_below (by (with_reducible repeat (first | apply Kd.R_alloc | apply Kd.R_drewN | apply Kd.R_drew)); exact HO387.out) hb); have n5_ := Aside0.mk (Kd.R_below (by (with_reducible repeat (first | apply Kd.R_alloc | apply Kd.R_drewN | apply Kd.R_drew)); exact HO389.out) hb); have n6_ := Aside0.mk (Kd.S_elder' (by (with_reducible repeat (first | apply Kd.S_alloc | apply Kd.S_drewN | apply Kd.S_drew)); exact HO393.out) (Kd.S_base ho0) hb); have n7_ := Aside0.mk (Kd.S_lower (Kd.S_new' (Kd.S_new' (Kd.S_new' (Kd.S_new' ho0 (Kd.R_lt (by (with_reducible repeat (first | apply Kd.R_alloc | apply Kd.R_drewN | apply Kd.R_drew)); exact HO375.out))) (Kd.R_lt (by (with_reducible repeat (first | apply Kd.R_alloc | apply Kd.R_drewN | apply Kd.R_drew)); exact HO382.out))) (Kd.R_lt (by (with_reducible repeat (first | apply Kd.R_alloc | apply Kd.R_drewN | apply Kd.R_drew)); exact HO389.out))) (Kd.S_lt (by (with_reducible repeat (first | apply Kd.S_alloc | apply Kd.S_drewN | apply Kd.S_drew)); exact HO393.out))) (below_size (by repeat (first | (with_reducible first | exact HB.out | apply below_alloc | apply pw_below_drewN | apply below_drew1) | exact HB.out)))); have n8_ := Aside0.mk (below_step (by repeat (first | (with_reducible first | exact HB.out | apply below_alloc | apply pw_below_drewN | apply below_drew1) | exact HB.out)) hb); clear HO373; clear HO375; clear HO380; clear HO382; clear HO387; clear HO389; clear HO393; clear HB; have HO373 := n0_; have HO375 := n1_; have HO380 := n2_; have HO382 := n3_; have HO387 := n4_; have HO389 := n5_; have HO393 := n6_; have HO397 := n7_; have HB := n8_; clear n0_ n1_ n2_ n3_ n4_ n5_ n6_ n7_ n8_; (try clear hb); (try clear hb2); (try clear hk); (try clear hi); (try clear ho0)) | (go_at_call 47; (with_reducible refine (impl_IdleTime.calls k _ _ t370 _ _ t371 t398 t399 _ ?side1 ?side2 ?side3 ?side4 A9.out).mono ?_); (case side1 => repeat (first | exact (Kd.R_reads' HO373.out).2.2 | (with_reducible refine Kd.C_alloc ?_ _) | (with_reducible refine Kd.C_drewN ?_ _) | (with_reducible refine Kd.C_drew ?_))); (case side2 => exact (Kd.R_reads' HO373.out).2.1); (case side3 => repeat (first | exact (Kd.R_reads' HO375.out).2.2 | (with_reducible refine Kd.C_alloc ?_ _) | (with_reducible refine Kd.C_drewN ?_ _) | (with_reducible refine Kd.C_drew ?_))); (case side4 => exact (Kd.R_reads' HO375.out).2.1); rintro e w19 ⟨rfl, hb⟩; have n0_ := Aside0.mk (Kd.R_below (by (with_reducible repeat (first | apply Kd.R_alloc | apply Kd.R_drewN | apply Kd.R_drew)); exact HO373.out) hb); have n1_ := Aside0.mk (Kd.R_below (by (with_reducible repeat (first | apply Kd.R_alloc | apply Kd.R_drewN | apply Kd.R_drew)); exact HO375.out) hb); have n2_ := Aside0.mk (Kd.R_below (by (with_reducible repeat (first | apply Kd.R_alloc | apply Kd.R_drewN | apply Kd.R_drew)); exact HO380.out) hb); have n3_ := Aside0.mk (Kd.R_below (by (with_reducible repeat (first | apply Kd.R_alloc | apply Kd.R_drewN | apply Kd.R_drew)); exact HO382.out) hb); have n4_ := Aside0.mk (Kd.R_below (by (with_reducible repeat (first | apply Kd.R_alloc | apply Kd.R_drewN | apply Kd.R_drew)); exact HO387.out) hb); have n5_ := Aside0.mk (Kd.R_below (by (with_reducible repeat (first | apply Kd.R_alloc | apply Kd.R_drewN | apply Kd.R_drew)); exact HO389.out) hb); have n6_ := Aside0.mk (Kd.S_below (by (with_reducible repeat (first | apply Kd.S_alloc | apply Kd.S_drewN | apply Kd.S_drew)); exact HO393.out) hb); have n7_ := Aside0.mk (Kd.S_below (by (with_reducible repeat (first | apply Kd.S_alloc | apply Kd.S_drewN | apply Kd.S_drew)); exact HO397.out) hb); have n8_ := Aside0.mk (below_step (by repeat (first | (with_reducible first | exact HB.out | apply below_alloc | apply pw_below_drewN | apply below_drew1) | exact HB.out)) hb); clear HO373; clear HO375; clear HO380; clear HO382; clear HO387; clear HO389; clear HO393; clear HO397; clear HB; have HO373 := n0_; have HO375 := n1_; have HO380 := n2_; have HO382 := n3_; have HO387 := n4_; have HO389 := n5_; have HO393 := n6_; have HO397 := n7_; have HB := n8_; clear n0_ n1_ n2_ n3_ n4_ n5_ n6_ n7_ n8_; (try clear hb); (try clear hb2); (try clear hk); (try clear hi)) | (go_at_call 48; (with_reducible refine (spec_IdleTime.calls k _ _ t370 _ _ t371 t400 t401 _ ?side1 ?side2 ?side3 ?side4 A10.out).mono ?_); (case side1 => repeat (first | exact (Kd.R_reads' HO373.out).2.2 | (with_reducible refine Kd.C_alloc ?_ _) | (with_reducible refine Kd.C_drewN ?_ _) | (with_reducible refine Kd.C_drew ?_))); (case side2 => exact (Kd.R_reads' HO373.out).2.1); (case side3 => repeat (first | exact (Kd.R_reads' HO375.out).2.2 | (with_reducible refine Kd.C_alloc ?_ _) | (with_reducible refine Kd.C_drewN ?_ _) | (with_reducible refine Kd.C_drew ?_))); (case side4 => exact (Kd.R_reads' HO375.out).2.1); rintro e w20 ⟨rfl, hb⟩; have n0_ := Aside0.mk (Kd.R_below (by (with_reducible repeat (first | apply Kd.R_alloc | apply Kd.R_drewN | apply Kd.R_drew)); exact HO373.out) hb); have n1_ := Aside0.mk (Kd.R_below (by (with_reducible repeat (first | apply Kd.R_alloc | apply Kd.R_drewN | apply Kd.R_drew)); exact HO375.out) hb); have n2_ := Aside0.mk (Kd.R_below (by (with_reducible repeat (first | apply Kd.R_alloc | apply Kd.R_drewN | apply Kd.R_drew)); exact HO380.out) hb); have n3_ := Aside0.mk (Kd.R_below (by (with_reducible repeat (first | apply Kd.R_alloc | apply Kd.R_drewN | apply Kd.R_drew)); exact HO382.out) hb); have n4_ := Aside0.mk (Kd.R_below (by (with_reducible repeat (first | apply Kd.R_alloc | apply Kd.R_drewN | apply Kd.R_drew)); exact HO387.out) hb); have n5_ := Aside0.mk (Kd.R_below (by (with_reducible repeat (first | apply Kd.R_alloc | apply Kd.R_drewN | apply Kd.R_drew)); exact HO389.out) hb); have n6_ := Aside0.mk (Kd.S_below (by (with_reducible repeat (first | apply Kd.S_alloc | apply Kd.S_drewN | apply Kd.S_drew)); exact HO393.out) hb); have n7_ := Aside0.mk (Kd.S_below (by (with_reducible repeat (first | apply Kd.S_alloc | apply Kd.S_drewN | apply Kd.S_drew)); exact HO397.out) hb); have n8_ := Aside0.mk (below_step (by repeat (first | (with_reducible first | exact HB.out | apply below_alloc | apply pw_below_drewN | apply below_drew1) | exact HB.out)) hb); clear HO373; clear HO375; clear HO380; clear HO382; clear HO387; clear HO389; clear HO393; clear HO397; clear HB; have HO373 := n0_; have HO375 := n1_; have HO380 := n2_; have HO382 := n3_; have HO387 := n4_; have HO389 := n5_; have HO393 := n6_; have HO397 := n7_; have HB := n8_; clear n0_ n1_ n2_ n3_ n4_ n5_ n6_ n7_ n8_; (try clear hb); (try clear hb2); (try clear hk); (try clear hi)))
    repeat (go_quiet (first | (go_at_call 33; (with_reducible refine (laws_big.calls _ _ l0 false _ ?side1 ?side2 A2.out).mono ?_); (case side1 => repeat (first | exact HR0.out | (with_reducible refine Kd.C_alloc ?_ _) | (with_reducible refine Kd.C_drewN ?_ _) | (with_reducible refine Kd.C_drew ?_))); (case side2 => exact HC0.out); rintro e w' ⟨rfl, ⟨nd, rfl⟩⟩; (try first | exact ⟨rfl, _, World.drewN_drewN _ _ _⟩ | exact ⟨rfl, _, Eq.trans (World.drewN_drewN _ _ _) (congrArg (World.drewN _) (Nat.add_assoc _ _ _))⟩)) | (go_at_call 44; (with_reducible refine (spec_DrawTurnFlow.calls k _ _ l0 t370 t371 _ ?side1 ?side2 A4.out).mono ?_); (case side1 => repeat (first | exact HR0.out | (with_reducible refine Kd.C_alloc ?_ _) | (with_reducible refine Kd.C_drewN ?_ _) | (with_reducible refine Kd.C_drew ?_))); (case side2 => exact HC0.out); rintro e w12 ⟨v372, v374, rfl, ho0, ho1, hb⟩; have n0_ := Aside0.mk (Kd.R_lower ho0 (below_size (by repeat (first | (with_reducible first | exact HB.out | apply below_alloc | apply pw_below_drewN | apply below_drew1) | exact HB.out)))); have n1_ := Aside0.mk (Kd.R_lower ho1 (below_size (by repeat (first | (with_reducible first | exact HB.out | apply below_alloc | apply pw_below_drewN | apply below_drew1) | exact HB.out)))); have n2_ := Aside0.mk (below_step (by repeat (first | (with_reducible first | exact HB.out | apply below_alloc | apply pw_below_drewN | apply below_drew1) | exact HB.out)) hb); clear HB; have HO373 := n0_; have HO375 := n1_; have HB := n2_; clear n0_ n1_ n2_; (try clear hb); (try clear hb2); (try clear hk); (try clear hi); (try clear ho0); (try clear ho1); obtain ⟨Ao13, co13, eo13⟩ := Kd.R_slice HO373.out; subst eo13; obtain ⟨Ao14, co14, eo14⟩ := Kd.R_slice HO375.out; subst eo14) | (go_at_call 45; (with_reducible refine (impl_TurnFlow.calls k _ _ t370 _ _ t371 t376 t377 t378 _ ?side1 ?side2 ?side3 ?side4 A5.out).mono ?_); (case side1 => repeat (first | exact (Kd.R_reads' HO373.out).2.2 | (with_reducible refine Kd.C_alloc ?_ _) | (with_reducible refine Kd.C_drewN ?_ _) | (with_reducible refine Kd.C_drew ?_))); (case side2 => exact (Kd.R_reads' HO373.out).2.1); (case side3 => repeat (first | exact (Kd.R_reads' HO375.out).2.2 | (with_reducible refine Kd.C_alloc ?_ _) | (with_reducible refine Kd.C_drewN ?_ _) | (with_reducible refine Kd.C_drew ?_))); (case side4 => exact (Kd.R_reads' HO375.out).2.1); rintro e w15 ⟨v379, v381, rfl, ho0, ho1, hb⟩; have n0_ := Aside0.mk (Kd.R_elder' (by (with_reducible repeat (first | apply Kd.R_alloc | apply Kd.R_drewN | apply Kd.R_drew)); exact HO373.out) (Kd.R_base ho0) hb); have n1_ := Aside0.mk (Kd.R_elder' (by (with_reducible repeat (first | apply Kd.R_alloc | apply Kd.R_drewN | apply Kd.R_drew)); exact HO375.out) (Kd.R_base ho1) hb); have n2_ := Aside0.mk (Kd.R_lower (Kd.R_new' ho0 (Kd.R_lt (by (with_reducible repeat (first | apply Kd.R_alloc | apply Kd.R_drewN | apply Kd.R_drew)); exact HO373.out))) (below_size (by repeat (first | (with_reducible first | exact HB.out | apply below_alloc | apply pw_below_drewN | apply below_drew1) | exact HB.out)))); have n3_ := Aside0.mk (Kd.R_lower (Kd.R_new' ho1 (Kd.R_lt (by (with_reducible repeat (first | apply Kd.R_alloc | apply Kd.R_drewN | apply Kd.R_drew)); exact HO375.out))) (below_size (by repeat (first | (with_reducible first | exact HB.out | apply below_alloc | apply pw_below_drewN | apply below_drew1) | exact HB.out)))); have n4_ := Aside0.mk (below_step (by repeat (first | (with_reducible first | exact HB.out | apply below_alloc | apply pw_below_drewN | apply below_drew1) | exact HB.out)) hb); clear HO373; clear HO375; clear HB; have HO373 := n0_; have HO375 := n1_; have HO380 := n2_; have HO382 := n3_; have HB := n4_; clear n0_ n1_ n2_ n3_ n4_; (try clear hb); (try clear hb2); (try clear hk); (try clear hi); (try clear ho0); (try clear ho1)) | (go_at_call 46; (with_reducible refine (spec_TurnFlow.calls k _ _ t370 _ _ t371 t383 t384 t385 _ ?side1 ?side2 ?side3 ?side4 A6.out).mono ?_); (case side1 => repeat (first | exact (Kd.R_reads' HO373.out).2.2 | (with_reducible refine Kd.C_alloc ?_ _) | (with_reducible refine Kd.C_drewN ?_ _) | (with_reducible refine Kd.C_drew ?_))); (case side2 => exact (Kd.R_reads' HO373.out).2.1); (case side3 => repeat (first | exact (Kd.R_reads' HO375.out).2.2 | (with_reducible refine Kd.C_alloc ?_ _) | (with_reducible refine Kd.C_drewN ?_ _) | (with_reducible refine Kd.C_drew ?_))); (case side4 => exact (Kd.R_reads' HO375.out).2.1); rintro e w16 ⟨v386, v388, rfl, ho0, ho1, hb⟩; have n0_ := Aside0.mk (Kd.R_elder' (by (with_reducible repeat (first | apply Kd.R_alloc | apply Kd.R_drewN | apply Kd.R_drew)); exact HO373.out) (Kd.R_base ho0) hb); have n1_ := Aside0.mk (Kd.R_elder' (by (with_reducible repeat (first | apply Kd.R_alloc | apply Kd.R_drewN | apply Kd.R_drew)); exact HO375.out) (Kd.R_base ho1) hb); have n2_ := Aside0.mk (Kd.R_elder' (by (with_reducible repeat (first | apply Kd.R_alloc | apply Kd.R_drewN | apply Kd.R_drew)); exact HO380.out) (Kd.R_base ho0) hb); have n3_ := Aside0.mk (Kd.R_elder' (by (with_reducible repeat (first | apply Kd.R_alloc | apply Kd.R_drewN | apply Kd.R_drew)); exact HO382.out) (Kd.R_base ho1) hb); have n4_ := Aside0.mk (Kd.R_lower (Kd.R_new' (Kd.R_new' ho0 (Kd.R_lt (by (with_reducible repeat (first | apply Kd.R_alloc | apply Kd.R_drewN | apply Kd.R_drew)); exact HO373.out))) (Kd.R_lt (by (with_reducible repeat (first | apply Kd.R_alloc | apply Kd.R_drewN | apply Kd.R_drew)); exact HO380.out))) (below_size (by repeat (first | (with_reducible first | exact HB.out | apply below_alloc | apply pw_below_drewN | apply below_drew1) | exact HB.out)))); have n5_ := Aside0.mk (Kd.R_lower (Kd.R_new' (Kd.R_new' ho1 (Kd.R_lt (by (with_reducible repeat (first | apply Kd.R_alloc | apply Kd.R_drewN | apply Kd.R_drew)); exact HO375.out))) (Kd.R_lt (by (with_reducible repeat (first | apply Kd.R_alloc | apply Kd.R_drewN | apply Kd.R_drew)); exact HO382.out))) (below_size (by repeat (first | (with_reducible first | exact HB.out | apply below_alloc | apply pw_below_drewN | apply below_drew1) | exact HB.out)))); have n6_ := Aside0.mk (below_step (by repeat (first | (with_reducible first | exact HB.out | apply below_alloc | apply pw_below_drewN | apply below_drew1) | exact HB.out)) hb); clear HO373; clear HO375; clear HO380; clear HO382; clear HB; have HO373 := n0_; have HO375 := n1_; have HO380 := n2_; have HO382 := n3_; have HO387 := n4_; have HO389 := n5_; have HB := n6_; clear n0_ n1_ n2_ n3_ n4_ n5_ n6_; (try clear hb); (try clear hb2); (try clear hk); (try clear hi); (try clear ho0); (try clear ho1)) | (go_at_call 18; (with_reducible refine (impl_FlowStarts.calls k _ _ t370 _ _ t371 t390 t391 _ ?side1 ?side2 ?side3 ?side4 A7.out).mono ?_); (case side1 => repeat (first | exact (Kd.R_reads' HO373.out).2.2 | (with_reducible refine Kd.C_alloc ?_ _) | (with_reducible refine Kd.C_drewN ?_ _) | (with_reducible refine Kd.C_drew ?_))); (case side2 => exact (Kd.R_reads' HO373.out).2.1); (case side3 => repeat (first | exact (Kd.R_reads' HO375.out).2.2 | (with_reducible refine Kd.C_alloc ?_ _) | (with_reducible refine Kd.C_drewN ?_ _) | (with_reducible refine Kd.C_drew ?_))); (case side4 => exact (Kd.R_reads' HO375.out).2.1); rintro e w17 ⟨v392, rfl, ho0, hb⟩; have n0_ := Aside0.mk (Kd.R_below (by (with_reducible repeat (first | apply Kd.R_alloc | apply Kd.R_drewN | apply Kd.R_drew)); exact HO373.out) hb); have n1_ := Aside0.mk (Kd.R_below (by (with_reducible repeat (first | apply Kd.R_alloc | apply Kd.R_drewN | apply Kd.R_drew)); exact HO375.out) hb); have n2_ := Aside0.mk (Kd.R_below (by (with_reducible repeat (first | apply Kd.R_alloc | apply Kd.R_drewN | apply Kd.R_drew)); exact HO380.out) hb); have n3_ := Aside0.mk (Kd.R_below (by (with_reducible repeat (first | apply Kd.R_alloc | apply Kd.R_drewN | apply Kd.R_drew)); exact HO382.out) hb); have n4_ := Aside0.mk (Kd.R_below (by (with_reducible repeat (first | apply Kd.R_alloc | apply Kd.R_drewN | apply Kd.R_drew)); exact HO387.out) hb); have n5_ := Aside0.mk (Kd.R_below (by (with_reducible repeat (first | apply Kd.R_alloc | apply Kd.R_drewN | apply Kd.R_drew)); exact HO389.out) hb); have n6_ := Aside0.mk (Kd.S_lower (Kd.S_new' (Kd.S_new' (Kd.S_new' ho0 (Kd.R_lt (by (with_reducible repeat (first | apply Kd.R_alloc | apply Kd.R_drewN | apply Kd.R_drew)); exact HO375.out))) (Kd.R_lt (by (with_reducible repeat (first | apply Kd.R_alloc | apply Kd.R_drewN | apply Kd.R_drew)); exact HO382.out))) (Kd.R_lt (by (with_reducible repeat (first | apply Kd.R_alloc | apply Kd.R_drewN | apply Kd.R_drew)); exact HO389.out))) (below_size (by repeat (first | (with_reducible first | exact HB.out | apply below_alloc | apply pw_below_drewN | apply below_drew1) | exact HB.out)))); have n7_ := Aside0.mk (below_step (by repeat (first | (with_reducible first | exact HB.out | apply below_alloc | apply pw_below_drewN | apply below_drew1) | exact HB.out)) hb); clear HO373; clear HO375; clear HO380; clear HO382; clear HO387; clear HO389; clear HB; have HO373 := n0_; have HO375 := n1_; have HO380 := n2_; have HO382 := n3_; have HO387 := n4_; have HO389 := n5_; have HO393 := n6_; have HB := n7_; clear n0_ n1_ n2_ n3_ n4_ n5_ n6_ n7_; (try clear hb); (try clear hb2); (try clear hk); (try clear hi); (try clear ho0)) | (go_at_call 15; (with_reducible refine (spec_FlowStarts.calls k _ _ t370 _ _ t371 t394 t395 _ ?side1 ?side2 ?side3 ?side4 A8.out).mono ?_); (case side1 => repeat (first | exact (Kd.R_reads' HO373.out).2.2 | (with_reducible refine Kd.C_alloc ?_ _) | (with_reducible refine Kd.C_drewN ?_ _) | (with_reducible refine Kd.C_drew ?_))); (case side2 => exact (Kd.R_reads' HO373.out).2.1); (case side3 => repeat (first | exact (Kd.R_reads' HO375.out).2.2 | (with_reducible refine Kd.C_alloc ?_ _) | (with_reducible refine Kd.C_drewN ?_ _) | (with_reducible refine Kd.C_drew ?_))); (case side4 => exact (Kd.R_reads' HO375.out).2.1); rintro e w18 ⟨v396, rfl, ho0, hb⟩; have n0_ := Aside0.mk (Kd.R_below (by (with_reducible repeat (first | apply Kd.R_alloc | apply Kd.R_drewN | apply Kd.R_drew)); exact HO373.out) hb); have n1_ := Aside0.mk (Kd.R_below (by (with_reducible repeat (first | apply Kd.R_alloc | apply Kd.R_drewN | apply Kd.R_drew)); exact HO375.out) hb); have n2_ := Aside0.mk (Kd.R_below (by (with_reducible repeat (first | apply Kd.R_alloc | apply Kd.R_drewN | apply Kd.R_drew)); exact HO380.out) hb); have n3_ := Aside0.mk (Kd.R_below (by (with_reducible repeat (first | apply Kd.R_alloc | apply Kd.R_drewN | apply Kd.R_drew)); exact HO382.out) hb); have n4_ := Aside0.mk (Kd.R_below (by (with_reducible repeat (first | apply Kd.R_alloc | apply Kd.R_drewN | apply Kd.R_drew)); exact HO387.out) hb); have n5_ := Aside0.mk (Kd.R_below (by (with_reducible repeat (first | apply Kd.R_alloc | apply Kd.R_drewN | apply Kd.R_drew)); exact HO389.out) hb); have n6_ := Aside0.mk (Kd.S_elder' (by (with_reducible repeat (first | apply Kd.S_alloc | apply Kd.S_drewN | apply Kd.S_drew)); exact HO393.out) (Kd.S_base ho0) hb); have n7_ := Aside0.mk (Kd.S_lower (Kd.S_new' (Kd.S_new' (Kd.S_new' (Kd.S_new' ho0 (Kd.R_lt (by (with_reducible repeat (first | apply Kd.R_alloc | apply Kd.R_drewN | apply Kd.R_drew)); exact HO375.out))) (Kd.R_lt (by (with_reducible repeat (first | apply Kd.R_alloc | apply Kd.R_drewN | apply Kd.R_drew)); exact HO382.out))) (Kd.R_lt (by (with_reducible repeat (first | apply Kd.R_alloc | apply Kd.R_drewN | apply Kd.R_drew)); exact HO389.out))) (Kd.S_lt (by (with_reducible repeat (first | apply Kd.S_alloc | apply Kd.S_drewN | apply Kd.S_drew)); exact HO393.out))) (below_size (by repeat (first | (with_reducible first | exact HB.out | apply below_alloc | apply pw_below_drewN | apply below_drew1) | exact HB.out)))); have n8_ := Aside0.mk (below_step (by repeat (first | (with_reducible first | exact HB.out | apply below_alloc | apply pw_below_drewN | apply below_drew1) | exact HB.out)) hb); clear HO373; clear HO375; clear HO380; clear HO382; clear HO387; clear HO389; clear HO393; clear HB; have HO373 := n0_; have HO375 := n1_; have HO380 := n2_; have HO382 := n3_; have HO387 := n4_; have HO389 := n5_; have HO393 := n6_; have HO397 := n7_; have HB := n8_; clear n0_ n1_ n2_ n3_ n4_ n5_ n6_ n7_ n8_; (try clear hb); (try clear hb2); (try clear hk); (try clear hi); (try clear ho0)) | (go_at_call 47; (with_reducible refine (impl_IdleTime.calls k _ _ t370 _ _ t371 t398 t399 _ ?side1 ?side2 ?side3 ?side4 A9.out).mono ?_); (case side1 => repeat (first | exact (Kd.R_reads' HO373.out).2.2 | (with_reducible refine Kd.C_alloc ?_ _) | (with_reducible refine Kd.C_drewN ?_ _) | (with_reducible refine Kd.C_drew ?_))); (case side2 => exact (Kd.R_reads' HO373.out).2.1); (case side3 => repeat (first | exact (Kd.R_reads' HO375.out).2.2 | (with_reducible refine Kd.C_alloc ?_ _) | (with_reducible refine Kd.C_drewN ?_ _) | (with_reducible refine Kd.C_drew ?_))); (case side4 => exact (Kd.R_reads' HO375.out).2.1); rintro e w19 ⟨rfl, hb⟩; have n0_ := Aside0.mk (Kd.R_below (by (with_reducible repeat (first | apply Kd.R_alloc | apply Kd.R_drewN | apply Kd.R_drew)); exact HO373.out) hb); have n1_ := Aside0.mk (Kd.R_below (by (with_reducible repeat (first | apply Kd.R_alloc | apply Kd.R_drewN | apply Kd.R_drew)); exact HO375.out) hb); have n2_ := Aside0.mk (Kd.R_below (by (with_reducible repeat (first | apply Kd.R_alloc | apply Kd.R_drewN | apply Kd.R_drew)); exact HO380.out) hb); have n3_ := Aside0.mk (Kd.R_below (by (with_reducible repeat (first | apply Kd.R_alloc | apply Kd.R_drewN | apply Kd.R_drew)); exact HO382.out) hb); have n4_ := Aside0.mk (Kd.R_below (by (with_reducible repeat (first | apply Kd.R_alloc | apply Kd.R_drewN | apply Kd.R_drew)); exact HO387.out) hb); have n5_ := Aside0.mk (Kd.R_below (by (with_reducible repeat (first | apply Kd.R_alloc | apply Kd.R_drewN | apply Kd.R_drew)); exact HO389.out) hb); have n6_ := Aside0.mk (Kd.S_below (by (with_reducible repeat (first | apply Kd.S_alloc | apply Kd.S_drewN | apply Kd.S_drew)); exact HO393.out) hb); have n7_ := Aside0.mk (Kd.S_below (by (with_reducible repeat (first | apply Kd.S_alloc | apply Kd.S_drewN | apply Kd.S_drew)); exact HO397.out) hb); have n8_ := Aside0.mk (below_step (by repeat (first | (with_reducible first | exact HB.out | apply below_alloc | apply pw_below_drewN | apply below_drew1) | exact HB.out)) hb); clear HO373; clear HO375; clear HO380; clear HO382; clear HO387; clear HO389; clear HO393; clear HO397; clear HB; have HO373 := n0_; have HO375 := n1_; have HO380 := n2_; have HO382 := n3_; have HO387 := n4_; have HO389 := n5_; have HO393 := n6_; have HO397 := n7_; have HB := n8_; clear n0_ n1_ n2_ n3_ n4_ n5_ n6_ n7_ n8_; (try clear hb); (try clear hb2); (try clear hk); (try clear hi)) | (go_at_call 48; (with_reducible refine (spec_IdleTime.calls k _ _ t370 _ _ t371 t400 t401 _ ?side1 ?side2 ?side3 ?side4 A10.out).mono ?_); (case side1 => repeat (first | exact (Kd.R_reads' HO373.out).2.2 | (with_reducible refine Kd.C_alloc ?_ _) | (with_reducible refine Kd.C_drewN ?_ _) | (with_reducible refine Kd.C_drew ?_))); (case side2 => exact (Kd.R_reads' HO373.out).2.1); (case side3 => repeat (first | exact (Kd.R_reads' HO375.out).2.2 | (with_reducible refine Kd.C_alloc ?_ _) | (with_reducible refine Kd.C_drewN ?_ _) | (with_reducible refine Kd.C_drew ?_))); (case side4 => exact (Kd.R_reads' HO375.out).2.1); rintro e w20 ⟨rfl, hb⟩; have n0_ := Aside0.mk (Kd.R_below (by (with_reducible repeat (first | apply Kd.R_alloc | apply Kd.R_drewN | apply Kd.R_drew)); exact HO373.out) hb); have n1_ := Aside0.mk (Kd.R_below (by (with_reducible repeat (first | apply Kd.R_alloc | apply Kd.R_drewN | apply Kd.R_drew)); exact HO375.out) hb); have n2_ := Aside0.mk (Kd.R_below (by (with_reducible repeat (first | apply Kd.R_alloc | apply Kd.R_drewN | apply Kd.R_drew)); exact HO380.out) hb); have n3_ := Aside0.mk (Kd.R_below (by (with_reducible repeat (first | apply Kd.R_alloc | apply Kd.R_drewN | apply Kd.R_drew)); exact HO382.out) hb); have n4_ := Aside0.mk (Kd.R_below (by (with_reducible repeat (first | apply Kd.R_alloc | apply Kd.R_drewN | apply Kd.R_drew)); exact HO387.out) hb); have n5_ := Aside0.mk (Kd.R_below (by (with_reducible repeat (first | apply Kd.R_alloc | apply Kd.R_drewN | apply Kd.R_drew)); exact HO389.out) hb); have n6_ := Aside0.mk (Kd.S_below (by (with_reducible repeat (first | apply Kd.S_alloc | apply Kd.S_drewN | apply Kd.S_drew)); exact HO393.out) hb); have n7_ := Aside0.mk (Kd.S_below (by (with_reducible repeat (first | apply Kd.S_alloc | apply Kd.S_drewN | apply Kd.S_drew)); exact HO397.out) hb); have n8_ := Aside0.mk (below_step (by repeat (first | (with_reducible first | exact HB.out | apply below_alloc | apply pw_below_drewN | apply below_drew1) | exact HB.out)) hb); clear HO373; clear HO375; clear HO380; clear HO382; clear HO387; clear HO389; clear HO393; clear HO397; clear HB; have HO373 := n0_; have HO375 := n1_; have HO380 := n2_; have HO382 := n3_; have HO387 := n4_; have HO389 := n5_; have HO393 := n6_; have HO397 := n7_; have HB := n8_; clear n0_ n1_ n2_ n3_ n4_ n5_ n6_ n7_ n8_; (try clear hb); (try clear hb2); (try clear hk); (try clear hi))); go_upto_region 10 with (first | (go_at_call 33; (with_reducible refine (laws_big.calls _ _ l0 false _ ?side1 ?side2 A2.out).mono ?_); (case side1 => repeat (first | exact HR0.out | (with_reducible refine Kd.C_alloc ?_ _) | (with_reducible refine Kd.C_drewN ?_ _) | (with_reducible refine Kd.C_drew ?_))); (case side2 => exact HC0.out); rintro e w' ⟨rfl, ⟨nd, rfl⟩⟩; (try first | exact ⟨rfl, _, World.drewN_drewN _ _ _⟩ | exact ⟨rfl, _, Eq.trans (World.drewN_drewN _ _ _) (congrArg (World.drewN _) (Nat.add_assoc _ _ _))⟩)) | (go_at_call 44; (with_reducible refine (spec_DrawTurnFlow.calls k _ _ l0 t370 t371 _ ?side1 ?side2 A4.out).mono ?_); (case side1 => repeat (first | exact HR0.out | (with_reducible refine Kd.C_alloc ?_ _) | (with_reducible refine Kd.C_drewN ?_ _) | (with_reducible refine Kd.C_drew ?_))); (case side2 => exact HC0.out); rintro e w12 ⟨v372, v374, rfl, ho0, ho1, hb⟩; have n0_ := Aside0.mk (Kd.R_lower ho0 (below_size (by repeat (first | (with_reducible first | exact HB.out | apply below_alloc | apply pw_below_drewN | apply below_drew1) | exact HB.out)))); have n1_ := Aside0.mk (Kd.R_lower ho1 (below_size (by repeat (first | (with_reducible first | exact HB.out | apply below_alloc | apply pw_below_drewN | apply below_drew1) | exact HB.out)))); have n2_ := Aside0.mk (below_step (by repeat (first | (with_reducible first | exact HB.out | apply below_alloc | apply pw_below_drewN | apply below_drew1) | exact HB.out)) hb); clear HB; have HO373 := n0_; have HO375 := n1_; have HB := n2_; clear n0_ n1_ n2_; (try clear hb); (try clear hb2); (try clear hk); (try clear hi); (try clear ho0); (try clear ho1); obtain ⟨Ao13, co13, eo13⟩ := Kd.R_slice HO373.out; subst eo13; obtain ⟨Ao14, co14, eo14⟩ := Kd.R_slice HO375.out; subst eo14) | (go_at_call 45; (with_reducible refine (impl_TurnFlow.calls k _ _ t370 _ _ t371 t376 t377 t378 _ ?side1 ?side2 ?side3 ?side4 A5.out).mono ?_); (case side1 => repeat (first | exact (Kd.R_reads' HO373.out).2.2 | (with_reducible refine Kd.C_alloc ?_ _) | (with_reducible refine Kd.C_drewN ?_ _) | (with_reducible refine Kd.C_drew ?_))); (case side2 => exact (Kd.R_reads' HO373.out).2.1); (case side3 => repeat (first | exact (Kd.R_reads' HO375.out).2.2 | (with_reducible refine Kd.C_alloc ?_ _) | (with_reducible refine Kd.C_drewN ?_ _) | (with_reducible refine Kd.C_drew ?_))); (case side4 => exact (Kd.R_reads' HO375.out).2.1); rintro e w15 ⟨v379, v381, rfl, ho0, ho1, hb⟩; have n0_ := Aside0.mk (Kd.R_elder' (by (with_reducible repeat (first | apply Kd.R_alloc | apply Kd.R_drewN | apply Kd.R_drew)); exact HO373.out) (Kd.R_base ho0) hb); have n1_ := Aside0.mk (Kd.R_elder' (by (with_reducible repeat (first | apply Kd.R_alloc | apply Kd.R_drewN | apply Kd.R_drew)); exact HO375.out) (Kd.R_base ho1) hb); have n2_ := Aside0.mk (Kd.R_lower (Kd.R_new' ho0 (Kd.R_lt (by (with_reducible repeat (first | apply Kd.R_alloc | apply Kd.R_drewN | apply Kd.R_drew)); exact HO373.out))) (below_size (by repeat (first | (with_reducible first | exact HB.out | apply below_alloc | apply pw_below_drewN | apply below_drew1) | exact HB.out)))); have n3_ := Aside0.mk (Kd.R_lower (Kd.R_new' ho1 (Kd.R_lt (by (with_reducible repeat (first | apply Kd.R_alloc | apply Kd.R_drewN | apply Kd.R_drew)); exact HO375.out))) (below_size (by repeat (first | (with_reducible first | exact HB.out | apply below_alloc | apply pw_below_drewN | apply below_drew1) | exact HB.out)))); have n4_ := Aside0.mk (below_step (by repeat (first | (with_reducible first | exact HB.out | apply below_alloc | apply pw_below_drewN | apply below_drew1) | exact HB.out)) hb); clear HO373; clear HO375; clear HB; have HO373 := n0_; have HO375 := n1_; have HO380 := n2_; have HO382 := n3_; have HB := n4_; clear n0_ n1_ n2_ n3_ n4_; (try clear hb); (try clear hb2); (try clear hk); (try clear hi); (try clear ho0); (try clear ho1)) | (go_at_call 46; (with_reducible refine (spec_TurnFlow.calls k _ _ t370 _ _ t371 t383 t384 t385 _ ?side1 ?side2 ?side3 ?side4 A6.out).mono ?_); (case side1 => repeat (first | exact (Kd.R_reads' HO373.out).2.2 | (with_reducible refine Kd.C_alloc ?_ _) | (with_reducible refine Kd.C_drewN ?_ _) | (with_reducible refine Kd.C_drew ?_))); (case side2 => exact (Kd.R_reads' HO373.out).2.1); (case side3 => repeat (first | exact (Kd.R_reads' HO375.out).2.2 | (with_reducible refine Kd.C_alloc ?_ _) | (with_reducible refine Kd.C_drewN ?_ _) | (with_reducible refine Kd.C_drew ?_))); (case side4 => exact (Kd.R_reads' HO375.out).2.1); rintro e w16 ⟨v386, v388, rfl, ho0, ho1, hb⟩; have n0_ := Aside0.mk (Kd.R_elder' (by (with_reducible repeat (first | apply Kd.R_alloc | apply Kd.R_drewN | apply Kd.R_drew)); exact HO373.out) (Kd.R_base ho0) hb); have n1_ := Aside0.mk (Kd.R_elder' (by (with_reducible repeat (first | apply Kd.R_alloc | apply Kd.R_drewN | apply Kd.R_drew)); exact HO375.out) (Kd.R_base ho1) hb); have n2_ := Aside0.mk (Kd.R_elder' (by (with_reducible repeat (first | apply Kd.R_alloc | apply Kd.R_drewN | apply Kd.R_drew)); exact HO380.out) (Kd.R_base ho0) hb); have n3_ := Aside0.mk (Kd.R_elder' (by (with_reducible repeat (first | apply Kd.R_alloc | apply Kd.R_drewN | apply Kd.R_drew)); exact HO382.out) (Kd.R_base ho1) hb); have n4_ := Aside0.mk (Kd.R_lower (Kd.R_new' (Kd.R_new' ho0 (Kd.R_lt (by (with_reducible repeat (first | apply Kd.R_alloc | apply Kd.R_drewN | apply Kd.R_drew)); exact HO373.out))) (Kd.R_lt (by (with_reducible repeat (first | apply Kd.R_alloc | apply Kd.R_drewN | apply Kd.R_drew)); exact HO380.out))) (below_size (by repeat (first | (with_reducible first | exact HB.out | apply below_alloc | apply pw_below_drewN | apply below_drew1) | exact HB.out)))); have n5_ := Aside0.mk (Kd.R_lower (Kd.R_new' (Kd.R_new' ho1 (Kd.R_lt (by (with_reducible repeat (first | apply Kd.R_alloc | apply Kd.R_drewN | apply Kd.R_drew)); exact HO375.out))) (Kd.R_lt (by (with_reducible repeat (first | apply Kd.R_alloc | apply Kd.R_drewN | apply Kd.R_drew)); exact HO382.out))) (below_size (by repeat (first | (with_reducible first | exact HB.out | apply below_alloc | apply pw_below_drewN | apply below_drew1) | exact HB.out)))); have n6_ := Aside0.mk (below_step (by repeat (first | (with_reducible first | exact HB.out | apply below_alloc | apply pw_below_drewN | apply below_drew1) | exact HB.out)) hb); clear HO373; clear HO375; clear HO380; clear HO382; clear HB; have HO373 := n0_; have HO375 := n1_; have HO380 := n2_; have HO382 := n3_; have HO387 := n4_; have HO389 := n5_; have HB := n6_; clear n0_ n1_ n2_ n3_ n4_ n5_ n6_; (try clear hb); (try clear hb2); (try clear hk); (try clear hi); (try clear ho0); (try clear ho1)) | (go_at_call 18; (with_reducible refine (impl_FlowStarts.calls k _ _ t370 _ _ t371 t390 t391 _ ?side1 ?side2 ?side3 ?side4 A7.out).mono ?_); (case side1 => repeat (first | exact (Kd.R_reads' HO373.out).2.2 | (with_reducible refine Kd.C_alloc ?_ _) | (with_reducible refine Kd.C_drewN ?_ _) | (with_reducible refine Kd.C_drew ?_))); (case side2 => exact (Kd.R_reads' HO373.out).2.1); (case side3 => repeat (first | exact (Kd.R_reads' HO375.out).2.2 | (with_reducible refine Kd.C_alloc ?_ _) | (with_reducible refine Kd.C_drewN ?_ _) | (with_reducible refine Kd.C_drew ?_))); (case side4 => exact (Kd.R_reads' HO375.out).2.1); rintro e w17 ⟨v392, rfl, ho0, hb⟩; have n0_ := Aside0.mk (Kd.R_below (by (with_reducible repeat (first | apply Kd.R_alloc | apply Kd.R_drewN | apply Kd.R_drew)); exact HO373.out) hb); have n1_ := Aside0.mk (Kd.R_below (by (with_reducible repeat (first | apply Kd.R_alloc | apply Kd.R_drewN | apply Kd.R_drew)); exact HO375.out) hb); have n2_ := Aside0.mk (Kd.R_below (by (with_reducible repeat (first | apply Kd.R_alloc | apply Kd.R_drewN | apply Kd.R_drew)); exact HO380.out) hb); have n3_ := Aside0.mk (Kd.R_below (by (with_reducible repeat (first | apply Kd.R_alloc | apply Kd.R_drewN | apply Kd.R_drew)); exact HO382.out) hb); have n4_ := Aside0.mk (Kd.R_below (by (with_reducible repeat (first | apply Kd.R_alloc | apply Kd.R_drewN | apply Kd.R_drew)); exact HO387.out) hb); have n5_ := Aside0.mk (Kd.R_below (by (with_reducible repeat (first | apply Kd.R_alloc | apply Kd.R_drewN | apply Kd.R_drew)); exact HO389.out) hb); have n6_ := Aside0.mk (Kd.S_lower (Kd.S_new' (Kd.S_new' (Kd.S_new' ho0 (Kd.R_lt (by (with_reducible repeat (first | apply Kd.R_alloc | apply Kd.R_drewN | apply Kd.R_drew)); exact HO375.out))) (Kd.R_lt (by (with_reducible repeat (first | apply Kd.R_alloc | apply Kd.R_drewN | apply Kd.R_drew)); exact HO382.out))) (Kd.R_lt (by (with_reducible repeat (first | apply Kd.R_alloc | apply Kd.R_drewN | apply Kd.R_drew)); exact HO389.out))) (below_size (by repeat (first | (with_reducible first | exact HB.out | apply below_alloc | apply pw_below_drewN | apply below_drew1) | exact HB.out)))); have n7_ := Aside0.mk (below_step (by repeat (first | (with_reducible first | exact HB.out | apply below_alloc | apply pw_below_drewN | apply below_drew1) | exact HB.out)) hb); clear HO373; clear HO375; clear HO380; clear HO382; clear HO387; clear HO389; clear HB; have HO373 := n0_; have HO375 := n1_; have HO380 := n2_; have HO382 := n3_; have HO387 := n4_; have HO389 := n5_; have HO393 := n6_; have HB := n7_; clear n0_ n1_ n2_ n3_ n4_ n5_ n6_ n7_; (try clear hb); (try clear hb2); (try clear hk); (try clear hi); (try clear ho0)) | (go_at_call 15; (with_reducible refine (spec_FlowStarts.calls k _ _ t370 _ _ t371 t394 t395 _ ?side1 ?side2 ?side3 ?side4 A8.out).mono ?_); (case side1 => repeat (first | exact (Kd.R_reads' HO373.out).2.2 | (with_reducible refine Kd.C_alloc ?_ _) | (with_reducible refine Kd.C_drewN ?_ _) | (with_reducible refine Kd.C_drew ?_))); (case side2 => exact (Kd.R_reads' HO373.out).2.1); (case side3 => repeat (first | exact (Kd.R_reads' HO375.out).2.2 | (with_reducible refine Kd.C_alloc ?_ _) | (with_reducible refine Kd.C_drewN ?_ _) | (with_reducible refine Kd.C_drew ?_))); (case side4 => exact (Kd.R_reads' HO375.out).2.1); rintro e w18 ⟨v396, rfl, ho0, hb⟩; have n0_ := Aside0.mk (Kd.R_below (by (with_reducible repeat (first | apply Kd.R_alloc | apply Kd.R_drewN | apply Kd.R_drew)); exact HO373.out) hb); have n1_ := Aside0.mk (Kd.R_below (by (with_reducible repeat (first | apply Kd.R_alloc | apply Kd.R_drewN | apply Kd.R_drew)); exact HO375.out) hb); have n2_ := Aside0.mk (Kd.R_below (by (with_reducible repeat (first | apply Kd.R_alloc | apply Kd.R_drewN | apply Kd.R_drew)); exact HO380.out) hb); have n3_ := Aside0.mk (Kd.R_below (by (with_reducible repeat (first | apply Kd.R_alloc | apply Kd.R_drewN | apply Kd.R_drew)); exact HO382.out) hb); have n4_ := Aside0.mk (Kd.R_below (by (with_reducible repeat (first | apply Kd.R_alloc | apply Kd.R_drewN | apply Kd.R_drew)); exact HO387.out) hb); have n5_ := Aside0.mk (Kd.R_below (by (with_reducible repeat (first | apply Kd.R_alloc | apply Kd.R_drewN | apply Kd.R_drew)); exact HO389.out) hb); have n6_ := Aside0.mk (Kd.S_elder' (by (with_reducible repeat (first | apply Kd.S_alloc | apply Kd.S_drewN | apply Kd.S_drew)); exact HO393.out) (Kd.S_base ho0) hb); have n7_ := Aside0.mk (Kd.S_lower (Kd.S_new' (Kd.S_new' (Kd.S_new' (Kd.S_new' ho0 (Kd.R_lt (by (with_reducible repeat (first | apply Kd.R_alloc | apply Kd.R_drewN | apply Kd.R_drew)); exact HO375.out))) (Kd.R_lt (by (with_reducible repeat (first | apply Kd.R_alloc | apply Kd.R_drewN | apply Kd.R_drew)); exact HO382.out))) (Kd.R_lt (by (with_reducible repeat (first | apply Kd.R_alloc | apply Kd.R_drewN | apply Kd.R_drew)); exact HO389.out))) (Kd.S_lt (by (with_reducible repeat (first | apply Kd.S_alloc | apply Kd.S_drewN | apply Kd.S_drew)); exact HO393.out))) (below_size (by repeat (first | (with_reducible first | exact HB.out | apply below_alloc | apply pw_below_drewN | apply below_drew1) | exact HB.out)))); have n8_ := Aside0.mk (below_step (by repeat (first | (with_reducible first | exact HB.out | apply below_alloc | apply pw_below_drewN | apply below_drew1) | exact HB.out)) hb); clear HO373; clear HO375; clear HO380; clear HO382; clear HO387; clear HO389; clear HO393; clear HB; have HO373 := n0_; have HO375 := n1_; have HO380 := n2_; have HO382 := n3_; have HO387 := n4_; have HO389 := n5_; have HO393 := n6_; have HO397 := n7_; have HB := n8_; clear n0_ n1_ n2_ n3_ n4_ n5_ n6_ n7_ n8_; (try clear hb); (try clear hb2); (try clear hk); (try clear hi); (try clear ho0)) | (go_at_call 47; (with_reducible refine (impl_IdleTime.calls k _ _ t370 _ _ t371 t398 t399 _ ?side1 ?side2 ?side3 ?side4 A9.out).mono ?_); (case side1 => repeat (first | exact (Kd.R_reads' HO373.out).2.2 | (with_reducible refine Kd.C_alloc ?_ _) | (with_reducible refine Kd.C_drewN ?_ _) | (with_reducible refine Kd.C_drew ?_))); (case side2 => exact (Kd.R_reads' HO373.out).2.1); (case side3 => repeat (first | exact (Kd.R_reads' HO375.out).2.2 | (with_reducible refine Kd.C_alloc ?_ _) | (with_reducible refine Kd.C_drewN ?_ _) | (with_reducible refine Kd.C_drew ?_))); (case side4 => exact (Kd.R_reads' HO375.out).2.1); rintro e w19 ⟨rfl, hb⟩; have n0_ := Aside0.mk (Kd.R_below (by (with_reducible repeat (first | apply Kd.R_alloc | apply Kd.R_drewN | apply Kd.R_drew)); exact HO373.out) hb); have n1_ := Aside0.mk (Kd.R_below (by (with_reducible repeat (first | apply Kd.R_alloc | apply Kd.R_drewN | apply Kd.R_drew)); exact HO375.out) hb); have n2_ := Aside0.mk (Kd.R_below (by (with_reducible repeat (first | apply Kd.R_alloc | apply Kd.R_drewN | apply Kd.R_drew)); exact HO380.out) hb); have n3_ := Aside0.mk (Kd.R_below (by (with_reducible repeat (first | apply Kd.R_alloc | apply Kd.R_drewN | apply Kd.R_drew)); exact HO382.out) hb); have n4_ := Aside0.mk (Kd.R_below (by (with_reducible repeat (first | apply Kd.R_alloc | apply Kd.R_drewN | apply Kd.R_drew)); exact HO387.out) hb); have n5_ := Aside0.mk (Kd.R_below (by (with_reducible repeat (first | apply Kd.R_alloc | apply Kd.R_drewN | apply Kd.R_drew)); exact HO389.out) hb); have n6_ := Aside0.mk (Kd.S_below (by (with_reducible repeat (first | apply Kd.S_alloc | apply Kd.S_drewN | apply Kd.S_drew)); exact HO393.out) hb); have n7_ := Aside0.mk (Kd.S_below (by (with_reducible repeat (first | apply Kd.S_alloc | apply Kd.S_drewN | apply Kd.S_drew)); exact HO397.out) hb); have n8_ := Aside0.mk (below_step (by repeat (first | (with_reducible first | exact HB.out | apply below_alloc | apply pw_below_drewN | apply below_drew1) | exact HB.out)) hb); clear HO373; clear HO375; clear HO380; clear HO382; clear HO387; clear HO389; clear HO393; clear HO397; clear HB; have HO373 := n0_; have HO375 := n1_; have HO380 := n2_; have HO382 := n3_; have HO387 := n4_; have HO389 := n5_; have HO393 := n6_; have HO397 := n7_; have HB := n8_; clear n0_ n1_ n2_ n3_ n4_ n5_ n6_ n7_ n8_; (try clear hb); (try clear hb2); (try clear hk); (try clear hi)) | (go_at_call 48; (with_reducible refine (spec_IdleTime.calls k _ _ t370 _ _ t371 t400 t401 _ ?side1 ?side2 ?side3 ?side4 A10.out).mono ?_); (case side1 => repeat (first | exact (Kd.R_reads' HO373.out).2.2 | (with_reducible refine Kd.C_alloc ?_ _) | (with_reducible refine Kd.C_drewN ?_ _) | (with_reducible refine Kd.C_drew ?_))); (case side2 => exact (Kd.R_reads' HO373.out).2.1); (case side3 => repeat (first | exact (Kd.R_reads' HO375.out).2.2 | (with_reducible refine Kd.C_alloc ?_ _) | (with_reducible refine Kd.C_drewN ?_ _) | (with_reducible refine Kd.C_drew ?_))); (case side4 => exact (Kd.R_reads' HO375.out).2.1); rintro e w20 ⟨rfl, hb⟩; have n0_ := Aside0.mk (Kd.R_below (by (with_reducible repeat (first | apply Kd.R_alloc | apply Kd.R_drewN | apply Kd.R_drew)); exact HO373.out) hb); have n1_ := Aside0.mk (Kd.R_below (by (with_reducible repeat (first | apply Kd.R_alloc | apply Kd.R_drewN | apply Kd.R_drew)); exact HO375.out) hb); have n2_ := Aside0.mk (Kd.R_below (by (with_reducible repeat (first | apply Kd.R_alloc | apply Kd.R_drewN | apply Kd.R_drew)); exact HO380.out) hb); have n3_ := Aside0.mk (Kd.R_below (by (with_reducible repeat (first | apply Kd.R_alloc | apply Kd.R_drewN | apply Kd.R_drew)); exact HO382.out) hb); have n4_ := Aside0.mk (Kd.R_below (by (with_reducible repeat (first | apply Kd.R_alloc | apply Kd.R_drewN | apply Kd.R_drew)); exact HO387.out) hb); have n5_ := Aside0.mk (Kd.R_below (by (with_reducible repeat (first | apply Kd.R_alloc | apply Kd.R_drewN | apply Kd.R_drew)); exact HO389.out) hb); have n6_ := Aside0.mk (Kd.S_below (by (with_reducible repeat (first | apply Kd.S_alloc | apply Kd.S_drewN | apply Kd.S_drew)); exact HO393.out) hb); have n7_ := Aside0.mk (Kd.S_below (by (with_reducible repeat (first | apply Kd.S_alloc | apply Kd.S_drewN | apply Kd.S_drew)); exact HO397.out) hb); have n8_ := Aside0.mk (below_step (by repeat (first | (with_reducible first | exact HB.out | apply below_alloc | apply pw_below_drewN | apply below_drew1) | exact HB.out)) hb); clear HO373; clear HO375; clear HO380; clear HO382; clear HO387; clear HO389; clear HO393; clear HO397; clear HB; have HO373 := n0_; have HO375 := n1_; have HO380 := n2_; have HO382 := n3_; have HO387 := n4_; have HO389 := n5_; have HO393 := n6_; have HO397 := n7_; have HB := n8_; clear n0_ n1_ n2_ n3_ n4_ n5_ n6_ n7_ n8_; (try clear hb); (try clear hb2); (try clear hk); (try clear hi))))
    (try simp only [Act.put, List.setIfInBounds_toArray, List.set_cons_zero, List.set_cons_succ])
    go_cut [105] (fun v105 wc => ∃ (kq : Nat) (x105_10 : Bool), v105 = .bool x105_10 ∧ Aside0 (laws_FnTurnedFlow.j0 kq t370 t371 t376 t377 t378 t390 t398 x105_10 = some r) ∧ Aside0 (kq ≤ k) ∧ Aside0 (Kd.R k62 62 wc w.heap.size (fun k_ => some k_ ≠ (v379 : Value).ownBlock) (.slice Ao13 t370.length co13) t370) ∧ Aside0 (Kd.R (Kd.int .i64) 2 wc w.heap.size (fun k_ => some k_ ≠ (v381 : Value).ownBlock) (.slice Ao14 t371.length co14) t371) ∧ Aside0 (Kd.R k62 62 wc w.heap.size (fun k_ => some k_ ≠ ((.slice Ao13 t370.length co13) : Value).ownBlock) v379 t376) ∧ Aside0 (Kd.R (Kd.int .i64) 2 wc w.heap.size (fun k_ => some k_ ≠ ((.slice Ao14 t371.length co14) : Value).ownBlock) v381 t377) ∧ Aside0 (Kd.S (Kd.slice 2 (Kd.int .i64)) 23 wc w.heap.size (fun k_ => some k_ ≠ ((.slice Ao14 t371.length co14) : Value).ownBlock ∧ some k_ ≠ (v381 : Value).ownBlock) v392 t390) ∧ Aside0 (Below w.heap.size w wc))
    case first => as_aux_lemma =>
      have H := HC11.out
      clear HC11
      by_cases c21 : t378 = t385
      · rw [if_pos c21] at H
        have c21b0 : (t378 == t385) = true := beq_iff_eq.mpr c21
        have c21b1 : (t378 != t385) = false := bne_eq_false_iff_eq.mpr c21
        clear c21
        (first | rw [c21b0] | (simp only [i64_w, i32_w]; rw [c21b0]) | skip)
        replace H := Option.bind_eq_some_iff.mp H
        obtain ⟨t402, A220, H⟩ := H
        replace H : (if t402 = true then ((laws_likeInts.f k t377 t384).bind fun t403 => (if t403 = true then (if t391 = t395 then ((laws_likeLists9.f k t390 t394).bind fun t404 => (if t404 = true then (if t399 = t401 then (laws_FnTurnedFlow.j0 k t370 t371 t376 t377 t378 t390 t398 (t398 != t400)) else (laws_FnTurnedFlow.j0 k t370 t371 t376 t377 t378 t390 t398 true)) else (laws_FnTurnedFlow.j0 k t370 t371 t376 t377 t378 t390 t398 true))) else (laws_FnTurnedFlow.j0 k t370 t371 t376 t377 t378 t390 t398 true)) else (laws_FnTurnedFlow.j0 k t370 t371 t376 t377 t378 t390 t398 true))) else (laws_FnTurnedFlow.j0 k t370 t371 t376 t377 t378 t390 t398 true)) = some r := H
        have A22 := Aside0.mk A220
        clear A220
        by_cases c23 : t402 = true
        · subst c23
          have H1 : ((laws_likeInts.f k t377 t384).bind fun t403 => (if t403 = true then (if t391 = t395 then ((laws_likeLists9.f k t390 t394).bind fun t404 => (if t404 = true then (if t399 = t401 then (laws_FnTurnedFlow.j0 k t370 t371 t376 t377 t378 t390 t398 (t398 != t400)) else (laws_FnTurnedFlow.j0 k t370 t371 t376 t377 t378 t390 t398 true)) else (laws_FnTurnedFlow.j0 k t370 t371 t376 t377 t378 t390 t398 true))) else (laws_FnTurnedFlow.j0 k t370 t371 t376 t377 t378 t390 t398 true)) else (laws_FnTurnedFlow.j0 k t370 t371 t376 t377 t378 t390 t398 true))) = some r := by rw [if_pos rfl] at H; exact H
          clear H
          have H := H1
          clear H1
          replace H := Option.bind_eq_some_iff.mp H
          obtain ⟨t403, A240, H⟩ := H
          replace H : (if t403 = true then (if t391 = t395 then ((laws_likeLists9.f k t390 t394).bind fun t404 => (if t404 = true then (if t399 = t401 then (laws_FnTurnedFlow.j0 k t370 t371 t376 t377 t378 t390 t398 (t398 != t400)) else (laws_FnTurnedFlow.j0 k t370 t371 t376 t377 t378 t390 t398 true)) else (laws_FnTurnedFlow.j0 k t370 t371 t376 t377 t378 t390 t398 true))) else (laws_FnTurnedFlow.j0 k t370 t371 t376 t377 t378 t390 t398 true)) else (laws_FnTurnedFlow.j0 k t370 t371 t376 t377 t378 t390 t398 true)) = some r := H
          have A24 := Aside0.mk A240
          clear A240
          by_cases c25 : t403 = true
          · subst c25
            have H1 : (if t391 = t395 then ((laws_likeLists9.f k t390 t394).bind fun t404 => (if t404 = true then (if t399 = t401 then (laws_FnTurnedFlow.j0 k t370 t371 t376 t377 t378 t390 t398 (t398 != t400)) else (laws_FnTurnedFlow.j0 k t370 t371 t376 t377 t378 t390 t398 true)) else (laws_FnTurnedFlow.j0 k t370 t371 t376 t377 t378 t390 t398 true))) else (laws_FnTurnedFlow.j0 k t370 t371 t376 t377 t378 t390 t398 true)) = some r := by rw [if_pos rfl] at H; exact H
            clear H
            have H := H1
            clear H1
            by_cases c26 : t391 = t395
            · rw [if_pos c26] at H
              have c26b0 : (t391 == t395) = true := beq_iff_eq.mpr c26
              have c26b1 : (t391 != t395) = false := bne_eq_false_iff_eq.mpr c26
              clear c26
              replace H := Option.bind_eq_some_iff.mp H
              obtain ⟨t404, A270, H⟩ := H
              replace H : (if t404 = true then (if t399 = t401 then (laws_FnTurnedFlow.j0 k t370 t371 t376 t377 t378 t390 t398 (t398 != t400)) else (laws_FnTurnedFlow.j0 k t370 t371 t376 t377 t378 t390 t398 true)) else (laws_FnTurnedFlow.j0 k t370 t371 t376 t377 t378 t390 t398 true)) = some r := H
              have A27 := Aside0.mk A270
              clear A270
              by_cases c28 : t404 = true
              · subst c28
                have H1 : (if t399 = t401 then (laws_FnTurnedFlow.j0 k t370 t371 t376 t377 t378 t390 t398 (t398 != t400)) else (laws_FnTurnedFlow.j0 k t370 t371 t376 t377 t378 t390 t398 true)) = some r := by rw [if_pos rfl] at H; exact H
                clear H
                have H := H1
                clear H1
                by_cases c29 : t399 = t401
                · rw [if_pos c29] at H
                  have c29b0 : (t399 == t401) = true := beq_iff_eq.mpr c29
                  have c29b1 : (t399 != t401) = false := bne_eq_false_iff_eq.mpr c29
                  clear c29
                  have H' := Aside0.mk H
                  clear H
                  obtain ⟨Ao30, co30, eo30⟩ := Kd.R_slice HO380.out
                  subst eo30
                  obtain ⟨Ao31, co31, eo31⟩ := Kd.R_slice HO387.out
                  subst eo31
                  obtain ⟨Ao32, co32, eo32⟩ := Kd.R_slice HO382.out
                  subst eo32
                  obtain ⟨Ao33, co33, eo33⟩ := Kd.R_slice HO389.out
                  subst eo33
                  obtain ⟨Ao34, co34, eo34⟩ := Kd.S_slice HO393.out
                  subst eo34
                  obtain ⟨Ao35, co35, eo35⟩ := Kd.S_slice HO397.out
                  subst eo35
                  as_aux_lemma =>
                    go_wp2_with (first | (go_at_call 49; (with_reducible refine (laws_likeFlows9.calls k _ _ t376 _ _ t383 true _ ?side1 ?side2 ?side3 ?side4 A22.out).mono ?_); (case side1 => repeat (first | exact (Kd.R_reads' HO380.out).2.2 | (with_reducible refine Kd.C_alloc ?_ _) | (with_reducible refine Kd.C_drewN ?_ _) | (with_reducible refine Kd.C_drew ?_))); (case side2 => exact (Kd.R_reads' HO380.out).2.1); (case side3 => repeat (first | exact (Kd.R_reads' HO387.out).2.2 | (with_reducible refine Kd.C_alloc ?_ _) | (with_reducible refine Kd.C_drewN ?_ _) | (with_reducible refine Kd.C_drew ?_))); (case side4 => exact (Kd.R_reads' HO387.out).2.1); rintro e w' ⟨rfl, ⟨nd, rfl⟩⟩; (try first | exact ⟨rfl, _, World.drewN_drewN _ _ _⟩ | exact ⟨rfl, _, Eq.trans (World.drewN_drewN _ _ _) (congrArg (World.drewN _) (Nat.add_assoc _ _ _))⟩)) | (go_at_call 43; (with_reducible refine (laws_likeInts.calls k _ _ t377 _ _ t384 true _ ?side1 ?side2 ?side3 ?side4 A24.out).mono ?_); (case side1 => repeat (first | exact (Kd.R_reads' HO382.out).2.2 | (with_reducible refine Kd.C_alloc ?_ _) | (with_reducible refine Kd.C_drewN ?_ _) | (with_reducible refine Kd.C_drew ?_))); (case side2 => exact (Kd.R_reads' HO382.out).2.1); (case side3 => repeat (first | exact (Kd.R_reads' HO389.out).2.2 | (with_reducible refine Kd.C_alloc ?_ _) | (with_reducible refine Kd.C_drewN ?_ _) | (with_reducible refine Kd.C_drew ?_))); (case side4 => exact (Kd.R_reads' HO389.out).2.1); rintro e w' ⟨rfl, ⟨nd, rfl⟩⟩; (try first | exact ⟨rfl, _, World.drewN_drewN _ _ _⟩ | exact ⟨rfl, _, Eq.trans (World.drewN_drewN _ _ _) (congrArg (World.drewN _) (Nat.add_assoc _ _ _))⟩)) | (go_at_call 50; (with_reducible refine (laws_likeLists9.calls k _ _ t390 _ _ t394 true _ ?side1 ?side2 ?side3 ?side4 A27.out).mono ?_); (case side1 => repeat (first | exact (Kd.S_reads' HO393.out).2.2 | (with_reducible refine Kd.C_alloc ?_ _) | (with_reducible refine Kd.C_drewN ?_ _) | (with_reducible refine Kd.C_drew ?_))); (case side2 => exact (Kd.S_reads' HO393.out).2.1); (case side3 => repeat (first | exact (Kd.S_reads' HO397.out).2.2 | (with_reducible refine Kd.C_alloc ?_ _) | (with_reducible refine Kd.C_drewN ?_ _) | (with_reducible refine Kd.C_drew ?_))); (case side4 => exact (Kd.S_reads' HO397.out).2.1); rintro e w' ⟨rfl, ⟨nd, rfl⟩⟩; (try first | exact ⟨rfl, _, World.drewN_drewN _ _ _⟩ | exact ⟨rfl, _, Eq.trans (World.drewN_drewN _ _ _) (congrArg (World.drewN _) (Nat.add_assoc _ _ _))⟩)))
                    repeat (go_quiet (first | (go_at_call 49; (with_reducible refine (laws_likeFlows9.calls k _ _ t376 _ _ t383 true _ ?side1 ?side2 ?side3 ?side4 A22.out).mono ?_); (case side1 => repeat (first | exact (Kd.R_reads' HO380.out).2.2 | (with_reducible refine Kd.C_alloc ?_ _) | (with_reducible refine Kd.C_drewN ?_ _) | (with_reducible refine Kd.C_drew ?_))); (case side2 => exact (Kd.R_reads' HO380.out).2.1); (case side3 => repeat (first | exact (Kd.R_reads' HO387.out).2.2 | (with_reducible refine Kd.C_alloc ?_ _) | (with_reducible refine Kd.C_drewN ?_ _) | (with_reducible refine Kd.C_drew ?_))); (case side4 => exact (Kd.R_reads' HO387.out).2.1); rintro e w' ⟨rfl, ⟨nd, rfl⟩⟩; (try first | exact ⟨rfl, _, World.drewN_drewN _ _ _⟩ | exact ⟨rfl, _, Eq.trans (World.drewN_drewN _ _ _) (congrArg (World.drewN _) (Nat.add_assoc _ _ _))⟩)) | (go_at_call 43; (with_reducible refine (laws_likeInts.calls k _ _ t377 _ _ t384 true _ ?side1 ?side2 ?side3 ?side4 A24.out).mono ?_); (case side1 => repeat (first | exact (Kd.R_reads' HO382.out).2.2 | (with_reducible refine Kd.C_alloc ?_ _) | (with_reducible refine Kd.C_drewN ?_ _) | (with_reducible refine Kd.C_drew ?_))); (case side2 => exact (Kd.R_reads' HO382.out).2.1); (case side3 => repeat (first | exact (Kd.R_reads' HO389.out).2.2 | (with_reducible refine Kd.C_alloc ?_ _) | (with_reducible refine Kd.C_drewN ?_ _) | (with_reducible refine Kd.C_drew ?_))); (case side4 => exact (Kd.R_reads' HO389.out).2.1); rintro e w' ⟨rfl, ⟨nd, rfl⟩⟩; (try first | exact ⟨rfl, _, World.drewN_drewN _ _ _⟩ | exact ⟨rfl, _, Eq.trans (World.drewN_drewN _ _ _) (congrArg (World.drewN _) (Nat.add_assoc _ _ _))⟩)) | (go_at_call 50; (with_reducible refine (laws_likeLists9.calls k _ _ t390 _ _ t394 true _ ?side1 ?side2 ?side3 ?side4 A27.out).mono ?_); (case side1 => repeat (first | exact (Kd.S_reads' HO393.out).2.2 | (with_reducible refine Kd.C_alloc ?_ _) | (with_reducible refine Kd.C_drewN ?_ _) | (with_reducible refine Kd.C_drew ?_))); (case side2 => exact (Kd.S_reads' HO393.out).2.1); (case side3 => repeat (first | exact (Kd.S_reads' HO397.out).2.2 | (with_reducible refine Kd.C_alloc ?_ _) | (with_reducible refine Kd.C_drewN ?_ _) | (with_reducible refine Kd.C_drew ?_))); (case side4 => exact (Kd.S_reads' HO397.out).2.1); rintro e w' ⟨rfl, ⟨nd, rfl⟩⟩; (try first | exact ⟨rfl, _, World.drewN_drewN _ _ _⟩ | exact ⟨rfl, _, Eq.trans (World.drewN_drewN _ _ _) (congrArg (World.drewN _) (Nat.add_assoc _ _ _))⟩))); try go_wp2_with (first | (go_at_call 49; (with_reducible refine (laws_likeFlows9.calls k _ _ t376 _ _ t383 true _ ?side1 ?side2 ?side3 ?side4 A22.out).mono ?_); (case side1 => repeat (first | exact (Kd.R_reads' HO380.out).2.2 | (with_reducible refine Kd.C_alloc ?_ _) | (with_reducible refine Kd.C_drewN ?_ _) | (with_reducible refine Kd.C_drew ?_))); (case side2 => exact (Kd.R_reads' HO380.out).2.1); (case side3 => repeat (first | exact (Kd.R_reads' HO387.out).2.2 | (with_reducible refine Kd.C_alloc ?_ _) | (with_reducible refine Kd.C_drewN ?_ _) | (with_reducible refine Kd.C_drew ?_))); (case side4 => exact (Kd.R_reads' HO387.out).2.1); rintro e w' ⟨rfl, ⟨nd, rfl⟩⟩; (try first | exact ⟨rfl, _, World.drewN_drewN _ _ _⟩ | exact ⟨rfl, _, Eq.trans (World.drewN_drewN _ _ _) (congrArg (World.drewN _) (Nat.add_assoc _ _ _))⟩)) | (go_at_call 43; (with_reducible refine (laws_likeInts.calls k _ _ t377 _ _ t384 true _ ?side1 ?side2 ?side3 ?side4 A24.out).mono ?_); (case side1 => repeat (first | exact (Kd.R_reads' HO382.out).2.2 | (with_reducible refine Kd.C_alloc ?_ _) | (with_reducible refine Kd.C_drewN ?_ _) | (with_reducible refine Kd.C_drew ?_))); (case side2 => exact (Kd.R_reads' HO382.out).2.1); (case side3 => repeat (first | exact (Kd.R_reads' HO389.out).2.2 | (with_reducible refine Kd.C_alloc ?_ _) | (with_reducible refine Kd.C_drewN ?_ _) | (with_reducible refine Kd.C_drew ?_))); (case side4 => exact (Kd.R_reads' HO389.out).2.1); rintro e w' ⟨rfl, ⟨nd, rfl⟩⟩; (try first | exact ⟨rfl, _, World.drewN_drewN _ _ _⟩ | exact ⟨rfl, _, Eq.trans (World.drewN_drewN _ _ _) (congrArg (World.drewN _) (Nat.add_assoc _ _ _))⟩)) | (go_at_call 50; (with_reducible refine (laws_likeLists9.calls k _ _ t390 _ _ t394 true _ ?side1 ?side2 ?side3 ?side4 A27.out).mono ?_); (case side1 => repeat (first | exact (Kd.S_reads' HO393.out).2.2 | (with_reducible refine Kd.C_alloc ?_ _) | (with_reducible refine Kd.C_drewN ?_ _) | (with_reducible refine Kd.C_drew ?_))); (case side2 => exact (Kd.S_reads' HO393.out).2.1); (case side3 => repeat (first | exact (Kd.S_reads' HO397.out).2.2 | (with_reducible refine Kd.C_alloc ?_ _) | (with_reducible refine Kd.C_drewN ?_ _) | (with_reducible refine Kd.C_drew ?_))); (case side4 => exact (Kd.S_reads' HO397.out).2.1); rintro e w' ⟨rfl, ⟨nd, rfl⟩⟩; (try first | exact ⟨rfl, _, World.drewN_drewN _ _ _⟩ | exact ⟨rfl, _, Eq.trans (World.drewN_drewN _ _ _) (congrArg (World.drewN _) (Nat.add_assoc _ _ _))⟩))))
                    go_meet
                    case rel => exact ⟨_, ((t398 != t400)), (by first | rfl | (simp; done) | (simp [*]; done)), H', ⟨by first | omega | exact Nat.le_refl _⟩, ⟨by (with_reducible repeat (first | apply Kd.R_alloc | apply Kd.R_drewN | apply Kd.R_drew)); exact Kd.R_mono HO373.out (fun _ hk => hk.1.2)⟩, ⟨by (with_reducible repeat (first | apply Kd.R_alloc | apply Kd.R_drewN | apply Kd.R_drew)); exact Kd.R_mono HO375.out (fun _ hk => hk.1.2)⟩, ⟨by (with_reducible repeat (first | apply Kd.R_alloc | apply Kd.R_drewN | apply Kd.R_drew)); exact Kd.R_mono HO380.out (fun _ hk => hk.1.2)⟩, ⟨by (with_reducible repeat (first | apply Kd.R_alloc | apply Kd.R_drewN | apply Kd.R_drew)); exact Kd.R_mono HO382.out (fun _ hk => hk.1.2)⟩, ⟨by (with_reducible repeat (first | apply Kd.S_alloc | apply Kd.S_drewN | apply Kd.S_drew)); exact Kd.S_mono HO393.out (fun _ hk => ⟨hk.1.1.1.2, hk.1.1.2⟩)⟩, ⟨by repeat (first | (with_reducible first | exact HB.out | apply below_alloc | apply pw_below_drewN | apply below_drew1) | exact HB.out)⟩⟩
                · rw [if_neg c29] at H
                  have c29b0 : (t399 == t401) = false := beq_eq_false_iff_ne.mpr c29
                  have c29b1 : (t399 != t401) = true := bne_iff_ne.mpr c29
                  have H' := Aside0.mk H
                  clear H
                  obtain ⟨Ao36, co36, eo36⟩ := Kd.R_slice HO380.out
                  subst eo36
                  obtain ⟨Ao37, co37, eo37⟩ := Kd.R_slice HO387.out
                  subst eo37
                  obtain ⟨Ao38, co38, eo38⟩ := Kd.R_slice HO382.out
                  subst eo38
                  obtain ⟨Ao39, co39, eo39⟩ := Kd.R_slice HO389.out
                  subst eo39
                  obtain ⟨Ao40, co40, eo40⟩ := Kd.S_slice HO393.out
                  subst eo40
                  obtain ⟨Ao41, co41, eo41⟩ := Kd.S_slice HO397.out
                  subst eo41
                  as_aux_lemma =>
                    go_wp2_with (first | (go_at_call 49; (with_reducible refine (laws_likeFlows9.calls k _ _ t376 _ _ t383 true _ ?side1 ?side2 ?side3 ?side4 A22.out).mono ?_); (case side1 => repeat (first | exact (Kd.R_reads' HO380.out).2.2 | (with_reducible refine Kd.C_alloc ?_ _) | (with_reducible refine Kd.C_drewN ?_ _) | (with_reducible refine Kd.C_drew ?_))); (case side2 => exact (Kd.R_reads' HO380.out).2.1); (case side3 => repeat (first | exact (Kd.R_reads' HO387.out).2.2 | (with_reducible refine Kd.C_alloc ?_ _) | (with_reducible refine Kd.C_drewN ?_ _) | (with_reducible refine Kd.C_drew ?_))); (case side4 => exact (Kd.R_reads' HO387.out).2.1); rintro e w' ⟨rfl, ⟨nd, rfl⟩⟩; (try first | exact ⟨rfl, _, World.drewN_drewN _ _ _⟩ | exact ⟨rfl, _, Eq.trans (World.drewN_drewN _ _ _) (congrArg (World.drewN _) (Nat.add_assoc _ _ _))⟩)) | (go_at_call 43; (with_reducible refine (laws_likeInts.calls k _ _ t377 _ _ t384 true _ ?side1 ?side2 ?side3 ?side4 A24.out).mono ?_); (case side1 => repeat (first | exact (Kd.R_reads' HO382.out).2.2 | (with_reducible refine Kd.C_alloc ?_ _) | (with_reducible refine Kd.C_drewN ?_ _) | (with_reducible refine Kd.C_drew ?_))); (case side2 => exact (Kd.R_reads' HO382.out).2.1); (case side3 => repeat (first | exact (Kd.R_reads' HO389.out).2.2 | (with_reducible refine Kd.C_alloc ?_ _) | (with_reducible refine Kd.C_drewN ?_ _) | (with_reducible refine Kd.C_drew ?_))); (case side4 => exact (Kd.R_reads' HO389.out).2.1); rintro e w' ⟨rfl, ⟨nd, rfl⟩⟩; (try first | exact ⟨rfl, _, World.drewN_drewN _ _ _⟩ | exact ⟨rfl, _, Eq.trans (World.drewN_drewN _ _ _) (congrArg (World.drewN _) (Nat.add_assoc _ _ _))⟩)) | (go_at_call 50; (with_reducible refine (laws_likeLists9.calls k _ _ t390 _ _ t394 true _ ?side1 ?side2 ?side3 ?side4 A27.out).mono ?_); (case side1 => repeat (first | exact (Kd.S_reads' HO393.out).2.2 | (with_reducible refine Kd.C_alloc ?_ _) | (with_reducible refine Kd.C_drewN ?_ _) | (with_reducible refine Kd.C_drew ?_))); (case side2 => exact (Kd.S_reads' HO393.out).2.1); (case side3 => repeat (first | exact (Kd.S_reads' HO397.out).2.2 | (with_reducible refine Kd.C_alloc ?_ _) | (with_reducible refine Kd.C_drewN ?_ _) | (with_reducible refine Kd.C_drew ?_))); (case side4 => exact (Kd.S_reads' HO397.out).2.1); rintro e w' ⟨rfl, ⟨nd, rfl⟩⟩; (try first | exact ⟨rfl, _, World.drewN_drewN _ _ _⟩ | exact ⟨rfl, _, Eq.trans (World.drewN_drewN _ _ _) (congrArg (World.drewN _) (Nat.add_assoc _ _ _))⟩)))
                    repeat (go_quiet (first | (go_at_call 49; (with_reducible refine (laws_likeFlows9.calls k _ _ t376 _ _ t383 true _ ?side1 ?side2 ?side3 ?side4 A22.out).mono ?_); (case side1 => repeat (first | exact (Kd.R_reads' HO380.out).2.2 | (with_reducible refine Kd.C_alloc ?_ _) | (with_reducible refine Kd.C_drewN ?_ _) | (with_reducible refine Kd.C_drew ?_))); (case side2 => exact (Kd.R_reads' HO380.out).2.1); (case side3 => repeat (first | exact (Kd.R_reads' HO387.out).2.2 | (with_reducible refine Kd.C_alloc ?_ _) | (with_reducible refine Kd.C_drewN ?_ _) | (with_reducible refine Kd.C_drew ?_))); (case side4 => exact (Kd.R_reads' HO387.out).2.1); rintro e w' ⟨rfl, ⟨nd, rfl⟩⟩; (try first | exact ⟨rfl, _, World.drewN_drewN _ _ _⟩ | exact ⟨rfl, _, Eq.trans (World.drewN_drewN _ _ _) (congrArg (World.drewN _) (Nat.add_assoc _ _ _))⟩)) | (go_at_call 43; (with_reducible refine (laws_likeInts.calls k _ _ t377 _ _ t384 true _ ?side1 ?side2 ?side3 ?side4 A24.out).mono ?_); (case side1 => repeat (first | exact (Kd.R_reads' HO382.out).2.2 | (with_reducible refine Kd.C_alloc ?_ _) | (with_reducible refine Kd.C_drewN ?_ _) | (with_reducible refine Kd.C_drew ?_))); (case side2 => exact (Kd.R_reads' HO382.out).2.1); (case side3 => repeat (first | exact (Kd.R_reads' HO389.out).2.2 | (with_reducible refine Kd.C_alloc ?_ _) | (with_reducible refine Kd.C_drewN ?_ _) | (with_reducible refine Kd.C_drew ?_))); (case side4 => exact (Kd.R_reads' HO389.out).2.1); rintro e w' ⟨rfl, ⟨nd, rfl⟩⟩; (try first | exact ⟨rfl, _, World.drewN_drewN _ _ _⟩ | exact ⟨rfl, _, Eq.trans (World.drewN_drewN _ _ _) (congrArg (World.drewN _) (Nat.add_assoc _ _ _))⟩)) | (go_at_call 50; (with_reducible refine (laws_likeLists9.calls k _ _ t390 _ _ t394 true _ ?side1 ?side2 ?side3 ?side4 A27.out).mono ?_); (case side1 => repeat (first | exact (Kd.S_reads' HO393.out).2.2 | (with_reducible refine Kd.C_alloc ?_ _) | (with_reducible refine Kd.C_drewN ?_ _) | (with_reducible refine Kd.C_drew ?_))); (case side2 => exact (Kd.S_reads' HO393.out).2.1); (case side3 => repeat (first | exact (Kd.S_reads' HO397.out).2.2 | (with_reducible refine Kd.C_alloc ?_ _) | (with_reducible refine Kd.C_drewN ?_ _) | (with_reducible refine Kd.C_drew ?_))); (case side4 => exact (Kd.S_reads' HO397.out).2.1); rintro e w' ⟨rfl, ⟨nd, rfl⟩⟩; (try first | exact ⟨rfl, _, World.drewN_drewN _ _ _⟩ | exact ⟨rfl, _, Eq.trans (World.drewN_drewN _ _ _) (congrArg (World.drewN _) (Nat.add_assoc _ _ _))⟩))); try go_wp2_with (first | (go_at_call 49; (with_reducible refine (laws_likeFlows9.calls k _ _ t376 _ _ t383 true _ ?side1 ?side2 ?side3 ?side4 A22.out).mono ?_); (case side1 => repeat (first | exact (Kd.R_reads' HO380.out).2.2 | (with_reducible refine Kd.C_alloc ?_ _) | (with_reducible refine Kd.C_drewN ?_ _) | (with_reducible refine Kd.C_drew ?_))); (case side2 => exact (Kd.R_reads' HO380.out).2.1); (case side3 => repeat (first | exact (Kd.R_reads' HO387.out).2.2 | (with_reducible refine Kd.C_alloc ?_ _) | (with_reducible refine Kd.C_drewN ?_ _) | (with_reducible refine Kd.C_drew ?_))); (case side4 => exact (Kd.R_reads' HO387.out).2.1); rintro e w' ⟨rfl, ⟨nd, rfl⟩⟩; (try first | exact ⟨rfl, _, World.drewN_drewN _ _ _⟩ | exact ⟨rfl, _, Eq.trans (World.drewN_drewN _ _ _) (congrArg (World.drewN _) (Nat.add_assoc _ _ _))⟩)) | (go_at_call 43; (with_reducible refine (laws_likeInts.calls k _ _ t377 _ _ t384 true _ ?side1 ?side2 ?side3 ?side4 A24.out).mono ?_); (case side1 => repeat (first | exact (Kd.R_reads' HO382.out).2.2 | (with_reducible refine Kd.C_alloc ?_ _) | (with_reducible refine Kd.C_drewN ?_ _) | (with_reducible refine Kd.C_drew ?_))); (case side2 => exact (Kd.R_reads' HO382.out).2.1); (case side3 => repeat (first | exact (Kd.R_reads' HO389.out).2.2 | (with_reducible refine Kd.C_alloc ?_ _) | (with_reducible refine Kd.C_drewN ?_ _) | (with_reducible refine Kd.C_drew ?_))); (case side4 => exact (Kd.R_reads' HO389.out).2.1); rintro e w' ⟨rfl, ⟨nd, rfl⟩⟩; (try first | exact ⟨rfl, _, World.drewN_drewN _ _ _⟩ | exact ⟨rfl, _, Eq.trans (World.drewN_drewN _ _ _) (congrArg (World.drewN _) (Nat.add_assoc _ _ _))⟩)) | (go_at_call 50; (with_reducible refine (laws_likeLists9.calls k _ _ t390 _ _ t394 true _ ?side1 ?side2 ?side3 ?side4 A27.out).mono ?_); (case side1 => repeat (first | exact (Kd.S_reads' HO393.out).2.2 | (with_reducible refine Kd.C_alloc ?_ _) | (with_reducible refine Kd.C_drewN ?_ _) | (with_reducible refine Kd.C_drew ?_))); (case side2 => exact (Kd.S_reads' HO393.out).2.1); (case side3 => repeat (first | exact (Kd.S_reads' HO397.out).2.2 | (with_reducible refine Kd.C_alloc ?_ _) | (with_reducible refine Kd.C_drewN ?_ _) | (with_reducible refine Kd.C_drew ?_))); (case side4 => exact (Kd.S_reads' HO397.out).2.1); rintro e w' ⟨rfl, ⟨nd, rfl⟩⟩; (try first | exact ⟨rfl, _, World.drewN_drewN _ _ _⟩ | exact ⟨rfl, _, Eq.trans (World.drewN_drewN _ _ _) (congrArg (World.drewN _) (Nat.add_assoc _ _ _))⟩))))
                    go_meet
                    case rel => exact ⟨_, (true), (by first | rfl | (simp; done) | (simp [*]; done)), H', ⟨by first | omega | exact Nat.le_refl _⟩, ⟨by (with_reducible repeat (first | apply Kd.R_alloc | apply Kd.R_drewN | apply Kd.R_drew)); exact Kd.R_mono HO373.out (fun _ hk => hk.1.2)⟩, ⟨by (with_reducible repeat (first | apply Kd.R_alloc | apply Kd.R_drewN | apply Kd.R_drew)); exact Kd.R_mono HO375.out (fun _ hk => hk.1.2)⟩, ⟨by (with_reducible repeat (first | apply Kd.R_alloc | apply Kd.R_drewN | apply Kd.R_drew)); exact Kd.R_mono HO380.out (fun _ hk => hk.1.2)⟩, ⟨by (with_reducible repeat (first | apply Kd.R_alloc | apply Kd.R_drewN | apply Kd.R_drew)); exact Kd.R_mono HO382.out (fun _ hk => hk.1.2)⟩, ⟨by (with_reducible repeat (first | apply Kd.S_alloc | apply Kd.S_drewN | apply Kd.S_drew)); exact Kd.S_mono HO393.out (fun _ hk => ⟨hk.1.1.1.2, hk.1.1.2⟩)⟩, ⟨by repeat (first | (with_reducible first | exact HB.out | apply below_alloc | apply pw_below_drewN | apply below_drew1) | exact HB.out)⟩⟩
              · replace c28 := Bool.eq_false_iff.mpr c28
                subst c28
                have H1 : (laws_FnTurnedFlow.j0 k t370 t371 t376 t377 t378 t390 t398 true) = some r := by rw [if_neg (show ¬ (false = true) by decide)] at H; exact H
                clear H
                have H := H1
                clear H1
                have H' := Aside0.mk H
                clear H
                obtain ⟨Ao42, co42, eo42⟩ := Kd.R_slice HO380.out
                subst eo42
                obtain ⟨Ao43, co43, eo43⟩ := Kd.R_slice HO387.out
                subst eo43
                obtain ⟨Ao44, co44, eo44⟩ := Kd.R_slice HO382.out
                subst eo44
                obtain ⟨Ao45, co45, eo45⟩ := Kd.R_slice HO389.out
                subst eo45
                obtain ⟨Ao46, co46, eo46⟩ := Kd.S_slice HO393.out
                subst eo46
                obtain ⟨Ao47, co47, eo47⟩ := Kd.S_slice HO397.out
                subst eo47
                as_aux_lemma =>
                  go_wp2_with (first | (go_at_call 49; (with_reducible refine (laws_likeFlows9.calls k _ _ t376 _ _ t383 true _ ?side1 ?side2 ?side3 ?side4 A22.out).mono ?_); (case side1 => repeat (first | exact (Kd.R_reads' HO380.out).2.2 | (with_reducible refine Kd.C_alloc ?_ _) | (with_reducible refine Kd.C_drewN ?_ _) | (with_reducible refine Kd.C_drew ?_))); (case side2 => exact (Kd.R_reads' HO380.out).2.1); (case side3 => repeat (first | exact (Kd.R_reads' HO387.out).2.2 | (with_reducible refine Kd.C_alloc ?_ _) | (with_reducible refine Kd.C_drewN ?_ _) | (with_reducible refine Kd.C_drew ?_))); (case side4 => exact (Kd.R_reads' HO387.out).2.1); rintro e w' ⟨rfl, ⟨nd, rfl⟩⟩; (try first | exact ⟨rfl, _, World.drewN_drewN _ _ _⟩ | exact ⟨rfl, _, Eq.trans (World.drewN_drewN _ _ _) (congrArg (World.drewN _) (Nat.add_assoc _ _ _))⟩)) | (go_at_call 43; (with_reducible refine (laws_likeInts.calls k _ _ t377 _ _ t384 true _ ?side1 ?side2 ?side3 ?side4 A24.out).mono ?_); (case side1 => repeat (first | exact (Kd.R_reads' HO382.out).2.2 | (with_reducible refine Kd.C_alloc ?_ _) | (with_reducible refine Kd.C_drewN ?_ _) | (with_reducible refine Kd.C_drew ?_))); (case side2 => exact (Kd.R_reads' HO382.out).2.1); (case side3 => repeat (first | exact (Kd.R_reads' HO389.out).2.2 | (with_reducible refine Kd.C_alloc ?_ _) | (with_reducible refine Kd.C_drewN ?_ _) | (with_reducible refine Kd.C_drew ?_))); (case side4 => exact (Kd.R_reads' HO389.out).2.1); rintro e w' ⟨rfl, ⟨nd, rfl⟩⟩; (try first | exact ⟨rfl, _, World.drewN_drewN _ _ _⟩ | exact ⟨rfl, _, Eq.trans (World.drewN_drewN _ _ _) (congrArg (World.drewN _) (Nat.add_assoc _ _ _))⟩)) | (go_at_call 50; (with_reducible refine (laws_likeLists9.calls k _ _ t390 _ _ t394 false _ ?side1 ?side2 ?side3 ?side4 A27.out).mono ?_); (case side1 => repeat (first | exact (Kd.S_reads' HO393.out).2.2 | (with_reducible refine Kd.C_alloc ?_ _) | (with_reducible refine Kd.C_drewN ?_ _) | (with_reducible refine Kd.C_drew ?_))); (case side2 => exact (Kd.S_reads' HO393.out).2.1); (case side3 => repeat (first | exact (Kd.S_reads' HO397.out).2.2 | (with_reducible refine Kd.C_alloc ?_ _) | (with_reducible refine Kd.C_drewN ?_ _) | (with_reducible refine Kd.C_drew ?_))); (case side4 => exact (Kd.S_reads' HO397.out).2.1); rintro e w' ⟨rfl, ⟨nd, rfl⟩⟩; (try first | exact ⟨rfl, _, World.drewN_drewN _ _ _⟩ | exact ⟨rfl, _, Eq.trans (World.drewN_drewN _ _ _) (congrArg (World.drewN _) (Nat.add_assoc _ _ _))⟩)))
                  repeat (go_quiet (first | (go_at_call 49; (with_reducible refine (laws_likeFlows9.calls k _ _ t376 _ _ t383 true _ ?side1 ?side2 ?side3 ?side4 A22.out).mono ?_); (case side1 => repeat (first | exact (Kd.R_reads' HO380.out).2.2 | (with_reducible refine Kd.C_alloc ?_ _) | (with_reducible refine Kd.C_drewN ?_ _) | (with_reducible refine Kd.C_drew ?_))); (case side2 => exact (Kd.R_reads' HO380.out).2.1); (case side3 => repeat (first | exact (Kd.R_reads' HO387.out).2.2 | (with_reducible refine Kd.C_alloc ?_ _) | (with_reducible refine Kd.C_drewN ?_ _) | (with_reducible refine Kd.C_drew ?_))); (case side4 => exact (Kd.R_reads' HO387.out).2.1); rintro e w' ⟨rfl, ⟨nd, rfl⟩⟩; (try first | exact ⟨rfl, _, World.drewN_drewN _ _ _⟩ | exact ⟨rfl, _, Eq.trans (World.drewN_drewN _ _ _) (congrArg (World.drewN _) (Nat.add_assoc _ _ _))⟩)) | (go_at_call 43; (with_reducible refine (laws_likeInts.calls k _ _ t377 _ _ t384 true _ ?side1 ?side2 ?side3 ?side4 A24.out).mono ?_); (case side1 => repeat (first | exact (Kd.R_reads' HO382.out).2.2 | (with_reducible refine Kd.C_alloc ?_ _) | (with_reducible refine Kd.C_drewN ?_ _) | (with_reducible refine Kd.C_drew ?_))); (case side2 => exact (Kd.R_reads' HO382.out).2.1); (case side3 => repeat (first | exact (Kd.R_reads' HO389.out).2.2 | (with_reducible refine Kd.C_alloc ?_ _) | (with_reducible refine Kd.C_drewN ?_ _) | (with_reducible refine Kd.C_drew ?_))); (case side4 => exact (Kd.R_reads' HO389.out).2.1); rintro e w' ⟨rfl, ⟨nd, rfl⟩⟩; (try first | exact ⟨rfl, _, World.drewN_drewN _ _ _⟩ | exact ⟨rfl, _, Eq.trans (World.drewN_drewN _ _ _) (congrArg (World.drewN _) (Nat.add_assoc _ _ _))⟩)) | (go_at_call 50; (with_reducible refine (laws_likeLists9.calls k _ _ t390 _ _ t394 false _ ?side1 ?side2 ?side3 ?side4 A27.out).mono ?_); (case side1 => repeat (first | exact (Kd.S_reads' HO393.out).2.2 | (with_reducible refine Kd.C_alloc ?_ _) | (with_reducible refine Kd.C_drewN ?_ _) | (with_reducible refine Kd.C_drew ?_))); (case side2 => exact (Kd.S_reads' HO393.out).2.1); (case side3 => repeat (first | exact (Kd.S_reads' HO397.out).2.2 | (with_reducible refine Kd.C_alloc ?_ _) | (with_reducible refine Kd.C_drewN ?_ _) | (with_reducible refine Kd.C_drew ?_))); (case side4 => exact (Kd.S_reads' HO397.out).2.1); rintro e w' ⟨rfl, ⟨nd, rfl⟩⟩; (try first | exact ⟨rfl, _, World.drewN_drewN _ _ _⟩ | exact ⟨rfl, _, Eq.trans (World.drewN_drewN _ _ _) (congrArg (World.drewN _) (Nat.add_assoc _ _ _))⟩))); try go_wp2_with (first | (go_at_call 49; (with_reducible refine (laws_likeFlows9.calls k _ _ t376 _ _ t383 true _ ?side1 ?side2 ?side3 ?side4 A22.out).mono ?_); (case side1 => repeat (first | exact (Kd.R_reads' HO380.out).2.2 | (with_reducible refine Kd.C_alloc ?_ _) | (with_reducible refine Kd.C_drewN ?_ _) | (with_reducible refine Kd.C_drew ?_))); (case side2 => exact (Kd.R_reads' HO380.out).2.1); (case side3 => repeat (first | exact (Kd.R_reads' HO387.out).2.2 | (with_reducible refine Kd.C_alloc ?_ _) | (with_reducible refine Kd.C_drewN ?_ _) | (with_reducible refine Kd.C_drew ?_))); (case side4 => exact (Kd.R_reads' HO387.out).2.1); rintro e w' ⟨rfl, ⟨nd, rfl⟩⟩; (try first | exact ⟨rfl, _, World.drewN_drewN _ _ _⟩ | exact ⟨rfl, _, Eq.trans (World.drewN_drewN _ _ _) (congrArg (World.drewN _) (Nat.add_assoc _ _ _))⟩)) | (go_at_call 43; (with_reducible refine (laws_likeInts.calls k _ _ t377 _ _ t384 true _ ?side1 ?side2 ?side3 ?side4 A24.out).mono ?_); (case side1 => repeat (first | exact (Kd.R_reads' HO382.out).2.2 | (with_reducible refine Kd.C_alloc ?_ _) | (with_reducible refine Kd.C_drewN ?_ _) | (with_reducible refine Kd.C_drew ?_))); (case side2 => exact (Kd.R_reads' HO382.out).2.1); (case side3 => repeat (first | exact (Kd.R_reads' HO389.out).2.2 | (with_reducible refine Kd.C_alloc ?_ _) | (with_reducible refine Kd.C_drewN ?_ _) | (with_reducible refine Kd.C_drew ?_))); (case side4 => exact (Kd.R_reads' HO389.out).2.1); rintro e w' ⟨rfl, ⟨nd, rfl⟩⟩; (try first | exact ⟨rfl, _, World.drewN_drewN _ _ _⟩ | exact ⟨rfl, _, Eq.trans (World.drewN_drewN _ _ _) (congrArg (World.drewN _) (Nat.add_assoc _ _ _))⟩)) | (go_at_call 50; (with_reducible refine (laws_likeLists9.calls k _ _ t390 _ _ t394 false _ ?side1 ?side2 ?side3 ?side4 A27.out).mono ?_); (case side1 => repeat (first | exact (Kd.S_reads' HO393.out).2.2 | (with_reducible refine Kd.C_alloc ?_ _) | (with_reducible refine Kd.C_drewN ?_ _) | (with_reducible refine Kd.C_drew ?_))); (case side2 => exact (Kd.S_reads' HO393.out).2.1); (case side3 => repeat (first | exact (Kd.S_reads' HO397.out).2.2 | (with_reducible refine Kd.C_alloc ?_ _) | (with_reducible refine Kd.C_drewN ?_ _) | (with_reducible refine Kd.C_drew ?_))); (case side4 => exact (Kd.S_reads' HO397.out).2.1); rintro e w' ⟨rfl, ⟨nd, rfl⟩⟩; (try first | exact ⟨rfl, _, World.drewN_drewN _ _ _⟩ | exact ⟨rfl, _, Eq.trans (World.drewN_drewN _ _ _) (congrArg (World.drewN _) (Nat.add_assoc _ _ _))⟩))))
                  go_meet
                  case rel => exact ⟨_, (true), (by first | rfl | (simp; done) | (simp [*]; done)), H', ⟨by first | omega | exact Nat.le_refl _⟩, ⟨by (with_reducible repeat (first | apply Kd.R_alloc | apply Kd.R_drewN | apply Kd.R_drew)); exact Kd.R_mono HO373.out (fun _ hk => hk.1.2)⟩, ⟨by (with_reducible repeat (first | apply Kd.R_alloc | apply Kd.R_drewN | apply Kd.R_drew)); exact Kd.R_mono HO375.out (fun _ hk => hk.1.2)⟩, ⟨by (with_reducible repeat (first | apply Kd.R_alloc | apply Kd.R_drewN | apply Kd.R_drew)); exact Kd.R_mono HO380.out (fun _ hk => hk.1.2)⟩, ⟨by (with_reducible repeat (first | apply Kd.R_alloc | apply Kd.R_drewN | apply Kd.R_drew)); exact Kd.R_mono HO382.out (fun _ hk => hk.1.2)⟩, ⟨by (with_reducible repeat (first | apply Kd.S_alloc | apply Kd.S_drewN | apply Kd.S_drew)); exact Kd.S_mono HO393.out (fun _ hk => ⟨hk.1.1.1.2, hk.1.1.2⟩)⟩, ⟨by repeat (first | (with_reducible first | exact HB.out | apply below_alloc | apply pw_below_drewN | apply below_drew1) | exact HB.out)⟩⟩
            · rw [if_neg c26] at H
              have c26b0 : (t391 == t395) = false := beq_eq_false_iff_ne.mpr c26
              have c26b1 : (t391 != t395) = true := bne_iff_ne.mpr c26
              have H' := Aside0.mk H
              clear H
              obtain ⟨Ao48, co48, eo48⟩ := Kd.R_slice HO380.out
              subst eo48
              obtain ⟨Ao49, co49, eo49⟩ := Kd.R_slice HO387.out
              subst eo49
              obtain ⟨Ao50, co50, eo50⟩ := Kd.R_slice HO382.out
              subst eo50
              obtain ⟨Ao51, co51, eo51⟩ := Kd.R_slice HO389.out
              subst eo51
              as_aux_lemma =>
                go_wp2_with (first | (go_at_call 49; (with_reducible refine (laws_likeFlows9.calls k _ _ t376 _ _ t383 true _ ?side1 ?side2 ?side3 ?side4 A22.out).mono ?_); (case side1 => repeat (first | exact (Kd.R_reads' HO380.out).2.2 | (with_reducible refine Kd.C_alloc ?_ _) | (with_reducible refine Kd.C_drewN ?_ _) | (with_reducible refine Kd.C_drew ?_))); (case side2 => exact (Kd.R_reads' HO380.out).2.1); (case side3 => repeat (first | exact (Kd.R_reads' HO387.out).2.2 | (with_reducible refine Kd.C_alloc ?_ _) | (with_reducible refine Kd.C_drewN ?_ _) | (with_reducible refine Kd.C_drew ?_))); (case side4 => exact (Kd.R_reads' HO387.out).2.1); rintro e w' ⟨rfl, ⟨nd, rfl⟩⟩; (try first | exact ⟨rfl, _, World.drewN_drewN _ _ _⟩ | exact ⟨rfl, _, Eq.trans (World.drewN_drewN _ _ _) (congrArg (World.drewN _) (Nat.add_assoc _ _ _))⟩)) | (go_at_call 43; (with_reducible refine (laws_likeInts.calls k _ _ t377 _ _ t384 true _ ?side1 ?side2 ?side3 ?side4 A24.out).mono ?_); (case side1 => repeat (first | exact (Kd.R_reads' HO382.out).2.2 | (with_reducible refine Kd.C_alloc ?_ _) | (with_reducible refine Kd.C_drewN ?_ _) | (with_reducible refine Kd.C_drew ?_))); (case side2 => exact (Kd.R_reads' HO382.out).2.1); (case side3 => repeat (first | exact (Kd.R_reads' HO389.out).2.2 | (with_reducible refine Kd.C_alloc ?_ _) | (with_reducible refine Kd.C_drewN ?_ _) | (with_reducible refine Kd.C_drew ?_))); (case side4 => exact (Kd.R_reads' HO389.out).2.1); rintro e w' ⟨rfl, ⟨nd, rfl⟩⟩; (try first | exact ⟨rfl, _, World.drewN_drewN _ _ _⟩ | exact ⟨rfl, _, Eq.trans (World.drewN_drewN _ _ _) (congrArg (World.drewN _) (Nat.add_assoc _ _ _))⟩)))
                repeat (go_quiet (first | (go_at_call 49; (with_reducible refine (laws_likeFlows9.calls k _ _ t376 _ _ t383 true _ ?side1 ?side2 ?side3 ?side4 A22.out).mono ?_); (case side1 => repeat (first | exact (Kd.R_reads' HO380.out).2.2 | (with_reducible refine Kd.C_alloc ?_ _) | (with_reducible refine Kd.C_drewN ?_ _) | (with_reducible refine Kd.C_drew ?_))); (case side2 => exact (Kd.R_reads' HO380.out).2.1); (case side3 => repeat (first | exact (Kd.R_reads' HO387.out).2.2 | (with_reducible refine Kd.C_alloc ?_ _) | (with_reducible refine Kd.C_drewN ?_ _) | (with_reducible refine Kd.C_drew ?_))); (case side4 => exact (Kd.R_reads' HO387.out).2.1); rintro e w' ⟨rfl, ⟨nd, rfl⟩⟩; (try first | exact ⟨rfl, _, World.drewN_drewN _ _ _⟩ | exact ⟨rfl, _, Eq.trans (World.drewN_drewN _ _ _) (congrArg (World.drewN _) (Nat.add_assoc _ _ _))⟩)) | (go_at_call 43; (with_reducible refine (laws_likeInts.calls k _ _ t377 _ _ t384 true _ ?side1 ?side2 ?side3 ?side4 A24.out).mono ?_); (case side1 => repeat (first | exact (Kd.R_reads' HO382.out).2.2 | (with_reducible refine Kd.C_alloc ?_ _) | (with_reducible refine Kd.C_drewN ?_ _) | (with_reducible refine Kd.C_drew ?_))); (case side2 => exact (Kd.R_reads' HO382.out).2.1); (case side3 => repeat (first | exact (Kd.R_reads' HO389.out).2.2 | (with_reducible refine Kd.C_alloc ?_ _) | (with_reducible refine Kd.C_drewN ?_ _) | (with_reducible refine Kd.C_drew ?_))); (case side4 => exact (Kd.R_reads' HO389.out).2.1); rintro e w' ⟨rfl, ⟨nd, rfl⟩⟩; (try first | exact ⟨rfl, _, World.drewN_drewN _ _ _⟩ | exact ⟨rfl, _, Eq.trans (World.drewN_drewN _ _ _) (congrArg (World.drewN _) (Nat.add_assoc _ _ _))⟩))); try go_wp2_with (first | (go_at_call 49; (with_reducible refine (laws_likeFlows9.calls k _ _ t376 _ _ t383 true _ ?side1 ?side2 ?side3 ?side4 A22.out).mono ?_); (case side1 => repeat (first | exact (Kd.R_reads' HO380.out).2.2 | (with_reducible refine Kd.C_alloc ?_ _) | (with_reducible refine Kd.C_drewN ?_ _) | (with_reducible refine Kd.C_drew ?_))); (case side2 => exact (Kd.R_reads' HO380.out).2.1); (case side3 => repeat (first | exact (Kd.R_reads' HO387.out).2.2 | (with_reducible refine Kd.C_alloc ?_ _) | (with_reducible refine Kd.C_drewN ?_ _) | (with_reducible refine Kd.C_drew ?_))); (case side4 => exact (Kd.R_reads' HO387.out).2.1); rintro e w' ⟨rfl, ⟨nd, rfl⟩⟩; (try first | exact ⟨rfl, _, World.drewN_drewN _ _ _⟩ | exact ⟨rfl, _, Eq.trans (World.drewN_drewN _ _ _) (congrArg (World.drewN _) (Nat.add_assoc _ _ _))⟩)) | (go_at_call 43; (with_reducible refine (laws_likeInts.calls k _ _ t377 _ _ t384 true _ ?side1 ?side2 ?side3 ?side4 A24.out).mono ?_); (case side1 => repeat (first | exact (Kd.R_reads' HO382.out).2.2 | (with_reducible refine Kd.C_alloc ?_ _) | (with_reducible refine Kd.C_drewN ?_ _) | (with_reducible refine Kd.C_drew ?_))); (case side2 => exact (Kd.R_reads' HO382.out).2.1); (case side3 => repeat (first | exact (Kd.R_reads' HO389.out).2.2 | (with_reducible refine Kd.C_alloc ?_ _) | (with_reducible refine Kd.C_drewN ?_ _) | (with_reducible refine Kd.C_drew ?_))); (case side4 => exact (Kd.R_reads' HO389.out).2.1); rintro e w' ⟨rfl, ⟨nd, rfl⟩⟩; (try first | exact ⟨rfl, _, World.drewN_drewN _ _ _⟩ | exact ⟨rfl, _, Eq.trans (World.drewN_drewN _ _ _) (congrArg (World.drewN _) (Nat.add_assoc _ _ _))⟩))))
                go_meet
                case rel => exact ⟨_, (true), (by first | rfl | (simp; done) | (simp [*]; done)), H', ⟨by first | omega | exact Nat.le_refl _⟩, ⟨by (with_reducible repeat (first | apply Kd.R_alloc | apply Kd.R_drewN | apply Kd.R_drew)); exact Kd.R_mono HO373.out (fun _ hk => hk.1.2)⟩, ⟨by (with_reducible repeat (first | apply Kd.R_alloc | apply Kd.R_drewN | apply Kd.R_drew)); exact Kd.R_mono HO375.out (fun _ hk => hk.1.2)⟩, ⟨by (with_reducible repeat (first | apply Kd.R_alloc | apply Kd.R_drewN | apply Kd.R_drew)); exact Kd.R_mono HO380.out (fun _ hk => hk.1.2)⟩, ⟨by (with_reducible repeat (first | apply Kd.R_alloc | apply Kd.R_drewN | apply Kd.R_drew)); exact Kd.R_mono HO382.out (fun _ hk => hk.1.2)⟩, ⟨by (with_reducible repeat (first | apply Kd.S_alloc | apply Kd.S_drewN | apply Kd.S_drew)); exact Kd.S_mono HO393.out (fun _ hk => ⟨hk.1.1.1.2, hk.1.1.2⟩)⟩, ⟨by repeat (first | (with_reducible first | exact HB.out | apply below_alloc | apply pw_below_drewN | apply below_drew1) | exact HB.out)⟩⟩
          · replace c25 := Bool.eq_false_iff.mpr c25
            subst c25
            have H1 : (laws_FnTurnedFlow.j0 k t370 t371 t376 t377 t378 t390 t398 true) = some r := by rw [if_neg (show ¬ (false = true) by decide)] at H; exact H
            clear H
            have H := H1
            clear H1
            have H' := Aside0.mk H
            clear H
            obtain ⟨Ao52, co52, eo52⟩ := Kd.R_slice HO380.out
            subst eo52
            obtain ⟨Ao53, co53, eo53⟩ := Kd.R_slice HO387.out
            subst eo53
            obtain ⟨Ao54, co54, eo54⟩ := Kd.R_slice HO382.out
            subst eo54
            obtain ⟨Ao55, co55, eo55⟩ := Kd.R_slice HO389.out
            subst eo55
            as_aux_lemma =>
              go_wp2_with (first | (go_at_call 49; (with_reducible refine (laws_likeFlows9.calls k _ _ t376 _ _ t383 true _ ?side1 ?side2 ?side3 ?side4 A22.out).mono ?_); (case side1 => repeat (first | exact (Kd.R_reads' HO380.out).2.2 | (with_reducible refine Kd.C_alloc ?_ _) | (with_reducible refine Kd.C_drewN ?_ _) | (with_reducible refine Kd.C_drew ?_))); (case side2 => exact (Kd.R_reads' HO380.out).2.1); (case side3 => repeat (first | exact (Kd.R_reads' HO387.out).2.2 | (with_reducible refine Kd.C_alloc ?_ _) | (with_reducible refine Kd.C_drewN ?_ _) | (with_reducible refine Kd.C_drew ?_))); (case side4 => exact (Kd.R_reads' HO387.out).2.1); rintro e w' ⟨rfl, ⟨nd, rfl⟩⟩; (try first | exact ⟨rfl, _, World.drewN_drewN _ _ _⟩ | exact ⟨rfl, _, Eq.trans (World.drewN_drewN _ _ _) (congrArg (World.drewN _) (Nat.add_assoc _ _ _))⟩)) | (go_at_call 43; (with_reducible refine (laws_likeInts.calls k _ _ t377 _ _ t384 false _ ?side1 ?side2 ?side3 ?side4 A24.out).mono ?_); (case side1 => repeat (first | exact (Kd.R_reads' HO382.out).2.2 | (with_reducible refine Kd.C_alloc ?_ _) | (with_reducible refine Kd.C_drewN ?_ _) | (with_reducible refine Kd.C_drew ?_))); (case side2 => exact (Kd.R_reads' HO382.out).2.1); (case side3 => repeat (first | exact (Kd.R_reads' HO389.out).2.2 | (with_reducible refine Kd.C_alloc ?_ _) | (with_reducible refine Kd.C_drewN ?_ _) | (with_reducible refine Kd.C_drew ?_))); (case side4 => exact (Kd.R_reads' HO389.out).2.1); rintro e w' ⟨rfl, ⟨nd, rfl⟩⟩; (try first | exact ⟨rfl, _, World.drewN_drewN _ _ _⟩ | exact ⟨rfl, _, Eq.trans (World.drewN_drewN _ _ _) (congrArg (World.drewN _) (Nat.add_assoc _ _ _))⟩)))
              repeat (go_quiet (first | (go_at_call 49; (with_reducible refine (laws_likeFlows9.calls k _ _ t376 _ _ t383 true _ ?side1 ?side2 ?side3 ?side4 A22.out).mono ?_); (case side1 => repeat (first | exact (Kd.R_reads' HO380.out).2.2 | (with_reducible refine Kd.C_alloc ?_ _) | (with_reducible refine Kd.C_drewN ?_ _) | (with_reducible refine Kd.C_drew ?_))); (case side2 => exact (Kd.R_reads' HO380.out).2.1); (case side3 => repeat (first | exact (Kd.R_reads' HO387.out).2.2 | (with_reducible refine Kd.C_alloc ?_ _) | (with_reducible refine Kd.C_drewN ?_ _) | (with_reducible refine Kd.C_drew ?_))); (case side4 => exact (Kd.R_reads' HO387.out).2.1); rintro e w' ⟨rfl, ⟨nd, rfl⟩⟩; (try first | exact ⟨rfl, _, World.drewN_drewN _ _ _⟩ | exact ⟨rfl, _, Eq.trans (World.drewN_drewN _ _ _) (congrArg (World.drewN _) (Nat.add_assoc _ _ _))⟩)) | (go_at_call 43; (with_reducible refine (laws_likeInts.calls k _ _ t377 _ _ t384 false _ ?side1 ?side2 ?side3 ?side4 A24.out).mono ?_); (case side1 => repeat (first | exact (Kd.R_reads' HO382.out).2.2 | (with_reducible refine Kd.C_alloc ?_ _) | (with_reducible refine Kd.C_drewN ?_ _) | (with_reducible refine Kd.C_drew ?_))); (case side2 => exact (Kd.R_reads' HO382.out).2.1); (case side3 => repeat (first | exact (Kd.R_reads' HO389.out).2.2 | (with_reducible refine Kd.C_alloc ?_ _) | (with_reducible refine Kd.C_drewN ?_ _) | (with_reducible refine Kd.C_drew ?_))); (case side4 => exact (Kd.R_reads' HO389.out).2.1); rintro e w' ⟨rfl, ⟨nd, rfl⟩⟩; (try first | exact ⟨rfl, _, World.drewN_drewN _ _ _⟩ | exact ⟨rfl, _, Eq.trans (World.drewN_drewN _ _ _) (congrArg (World.drewN _) (Nat.add_assoc _ _ _))⟩))); try go_wp2_with (first | (go_at_call 49; (with_reducible refine (laws_likeFlows9.calls k _ _ t376 _ _ t383 true _ ?side1 ?side2 ?side3 ?side4 A22.out).mono ?_); (case side1 => repeat (first | exact (Kd.R_reads' HO380.out).2.2 | (with_reducible refine Kd.C_alloc ?_ _) | (with_reducible refine Kd.C_drewN ?_ _) | (with_reducible refine Kd.C_drew ?_))); (case side2 => exact (Kd.R_reads' HO380.out).2.1); (case side3 => repeat (first | exact (Kd.R_reads' HO387.out).2.2 | (with_reducible refine Kd.C_alloc ?_ _) | (with_reducible refine Kd.C_drewN ?_ _) | (with_reducible refine Kd.C_drew ?_))); (case side4 => exact (Kd.R_reads' HO387.out).2.1); rintro e w' ⟨rfl, ⟨nd, rfl⟩⟩; (try first | exact ⟨rfl, _, World.drewN_drewN _ _ _⟩ | exact ⟨rfl, _, Eq.trans (World.drewN_drewN _ _ _) (congrArg (World.drewN _) (Nat.add_assoc _ _ _))⟩)) | (go_at_call 43; (with_reducible refine (laws_likeInts.calls k _ _ t377 _ _ t384 false _ ?side1 ?side2 ?side3 ?side4 A24.out).mono ?_); (case side1 => repeat (first | exact (Kd.R_reads' HO382.out).2.2 | (with_reducible refine Kd.C_alloc ?_ _) | (with_reducible refine Kd.C_drewN ?_ _) | (with_reducible refine Kd.C_drew ?_))); (case side2 => exact (Kd.R_reads' HO382.out).2.1); (case side3 => repeat (first | exact (Kd.R_reads' HO389.out).2.2 | (with_reducible refine Kd.C_alloc ?_ _) | (with_reducible refine Kd.C_drewN ?_ _) | (with_reducible refine Kd.C_drew ?_))); (case side4 => exact (Kd.R_reads' HO389.out).2.1); rintro e w' ⟨rfl, ⟨nd, rfl⟩⟩; (try first | exact ⟨rfl, _, World.drewN_drewN _ _ _⟩ | exact ⟨rfl, _, Eq.trans (World.drewN_drewN _ _ _) (congrArg (World.drewN _) (Nat.add_assoc _ _ _))⟩))))
              go_meet
              case rel => exact ⟨_, (true), (by first | rfl | (simp; done) | (simp [*]; done)), H', ⟨by first | omega | exact Nat.le_refl _⟩, ⟨by (with_reducible repeat (first | apply Kd.R_alloc | apply Kd.R_drewN | apply Kd.R_drew)); exact Kd.R_mono HO373.out (fun _ hk => hk.1.2)⟩, ⟨by (with_reducible repeat (first | apply Kd.R_alloc | apply Kd.R_drewN | apply Kd.R_drew)); exact Kd.R_mono HO375.out (fun _ hk => hk.1.2)⟩, ⟨by (with_reducible repeat (first | apply Kd.R_alloc | apply Kd.R_drewN | apply Kd.R_drew)); exact Kd.R_mono HO380.out (fun _ hk => hk.1.2)⟩, ⟨by (with_reducible repeat (first | apply Kd.R_alloc | apply Kd.R_drewN | apply Kd.R_drew)); exact Kd.R_mono HO382.out (fun _ hk => hk.1.2)⟩, ⟨by (with_reducible repeat (first | apply Kd.S_alloc | apply Kd.S_drewN | apply Kd.S_drew)); exact Kd.S_mono HO393.out (fun _ hk => ⟨hk.1.1.1.2, hk.1.1.2⟩)⟩, ⟨by repeat (first | (with_reducible first | exact HB.out | apply below_alloc | apply pw_below_drewN | apply below_drew1) | exact HB.out)⟩⟩
        · replace c23 := Bool.eq_false_iff.mpr c23
          subst c23
          have H1 : (laws_FnTurnedFlow.j0 k t370 t371 t376 t377 t378 t390 t398 true) = some r := by rw [if_neg (show ¬ (false = true) by decide)] at H; exact H
          clear H
          have H := H1
          clear H1
          have H' := Aside0.mk H
          clear H
          obtain ⟨Ao56, co56, eo56⟩ := Kd.R_slice HO380.out
          subst eo56
          obtain ⟨Ao57, co57, eo57⟩ := Kd.R_slice HO387.out
          subst eo57
          as_aux_lemma =>
            go_wp2_with (first | (go_at_call 49; (with_reducible refine (laws_likeFlows9.calls k _ _ t376 _ _ t383 false _ ?side1 ?side2 ?side3 ?side4 A22.out).mono ?_); (case side1 => repeat (first | exact (Kd.R_reads' HO380.out).2.2 | (with_reducible refine Kd.C_alloc ?_ _) | (with_reducible refine Kd.C_drewN ?_ _) | (with_reducible refine Kd.C_drew ?_))); (case side2 => exact (Kd.R_reads' HO380.out).2.1); (case side3 => repeat (first | exact (Kd.R_reads' HO387.out).2.2 | (with_reducible refine Kd.C_alloc ?_ _) | (with_reducible refine Kd.C_drewN ?_ _) | (with_reducible refine Kd.C_drew ?_))); (case side4 => exact (Kd.R_reads' HO387.out).2.1); rintro e w' ⟨rfl, ⟨nd, rfl⟩⟩; (try first | exact ⟨rfl, _, World.drewN_drewN _ _ _⟩ | exact ⟨rfl, _, Eq.trans (World.drewN_drewN _ _ _) (congrArg (World.drewN _) (Nat.add_assoc _ _ _))⟩)))
            repeat (go_quiet (first | (go_at_call 49; (with_reducible refine (laws_likeFlows9.calls k _ _ t376 _ _ t383 false _ ?side1 ?side2 ?side3 ?side4 A22.out).mono ?_); (case side1 => repeat (first | exact (Kd.R_reads' HO380.out).2.2 | (with_reducible refine Kd.C_alloc ?_ _) | (with_reducible refine Kd.C_drewN ?_ _) | (with_reducible refine Kd.C_drew ?_))); (case side2 => exact (Kd.R_reads' HO380.out).2.1); (case side3 => repeat (first | exact (Kd.R_reads' HO387.out).2.2 | (with_reducible refine Kd.C_alloc ?_ _) | (with_reducible refine Kd.C_drewN ?_ _) | (with_reducible refine Kd.C_drew ?_))); (case side4 => exact (Kd.R_reads' HO387.out).2.1); rintro e w' ⟨rfl, ⟨nd, rfl⟩⟩; (try first | exact ⟨rfl, _, World.drewN_drewN _ _ _⟩ | exact ⟨rfl, _, Eq.trans (World.drewN_drewN _ _ _) (congrArg (World.drewN _) (Nat.add_assoc _ _ _))⟩))); try go_wp2_with (first | (go_at_call 49; (with_reducible refine (laws_likeFlows9.calls k _ _ t376 _ _ t383 false _ ?side1 ?side2 ?side3 ?side4 A22.out).mono ?_); (case side1 => repeat (first | exact (Kd.R_reads' HO380.out).2.2 | (with_reducible refine Kd.C_alloc ?_ _) | (with_reducible refine Kd.C_drewN ?_ _) | (with_reducible refine Kd.C_drew ?_))); (case side2 => exact (Kd.R_reads' HO380.out).2.1); (case side3 => repeat (first | exact (Kd.R_reads' HO387.out).2.2 | (with_reducible refine Kd.C_alloc ?_ _) | (with_reducible refine Kd.C_drewN ?_ _) | (with_reducible refine Kd.C_drew ?_))); (case side4 => exact (Kd.R_reads' HO387.out).2.1); rintro e w' ⟨rfl, ⟨nd, rfl⟩⟩; (try first | exact ⟨rfl, _, World.drewN_drewN _ _ _⟩ | exact ⟨rfl, _, Eq.trans (World.drewN_drewN _ _ _) (congrArg (World.drewN _) (Nat.add_assoc _ _ _))⟩))))
            go_meet
            case rel => exact ⟨_, (true), (by first | rfl | (simp; done) | (simp [*]; done)), H', ⟨by first | omega | exact Nat.le_refl _⟩, ⟨by (with_reducible repeat (first | apply Kd.R_alloc | apply Kd.R_drewN | apply Kd.R_drew)); exact Kd.R_mono HO373.out (fun _ hk => hk.1.2)⟩, ⟨by (with_reducible repeat (first | apply Kd.R_alloc | apply Kd.R_drewN | apply Kd.R_drew)); exact Kd.R_mono HO375.out (fun _ hk => hk.1.2)⟩, ⟨by (with_reducible repeat (first | apply Kd.R_alloc | apply Kd.R_drewN | apply Kd.R_drew)); exact Kd.R_mono HO380.out (fun _ hk => hk.1.2)⟩, ⟨by (with_reducible repeat (first | apply Kd.R_alloc | apply Kd.R_drewN | apply Kd.R_drew)); exact Kd.R_mono HO382.out (fun _ hk => hk.1.2)⟩, ⟨by (with_reducible repeat (first | apply Kd.S_alloc | apply Kd.S_drewN | apply Kd.S_drew)); exact Kd.S_mono HO393.out (fun _ hk => ⟨hk.1.1.1.2, hk.1.1.2⟩)⟩, ⟨by repeat (first | (with_reducible first | exact HB.out | apply below_alloc | apply pw_below_drewN | apply below_drew1) | exact HB.out)⟩⟩
      · rw [if_neg c21] at H
        have c21b0 : (t378 == t385) = false := beq_eq_false_iff_ne.mpr c21
        have c21b1 : (t378 != t385) = true := bne_iff_ne.mpr c21
        (first | rw [c21b0] | (simp only [i64_w, i32_w]; rw [c21b0]) | skip)
        have H' := Aside0.mk H
        clear H
        as_aux_lemma =>
          go_wp2
          repeat (go_quiet (fail); try go_wp2)
          go_meet
          case rel => exact ⟨_, (true), (by first | rfl | (simp; done) | (simp [*]; done)), H', ⟨by first | omega | exact Nat.le_refl _⟩, ⟨by (with_reducible repeat (first | apply Kd.R_alloc | apply Kd.R_drewN | apply Kd.R_drew)); exact Kd.R_mono HO373.out (fun _ hk => hk.1.2)⟩, ⟨by (with_reducible repeat (first | apply Kd.R_alloc | apply Kd.R_drewN | apply Kd.R_drew)); exact Kd.R_mono HO375.out (fun _ hk => hk.1.2)⟩, ⟨by (with_reducible repeat (first | apply Kd.R_alloc | apply Kd.R_drewN | apply Kd.R_drew)); exact Kd.R_mono HO380.out (fun _ hk => hk.1.2)⟩, ⟨by (with_reducible repeat (first | apply Kd.R_alloc | apply Kd.R_drewN | apply Kd.R_drew)); exact Kd.R_mono HO382.out (fun _ hk => hk.1.2)⟩, ⟨by (with_reducible repeat (first | apply Kd.S_alloc | apply Kd.S_drewN | apply Kd.S_drew)); exact Kd.S_mono HO393.out (fun _ hk => ⟨hk.1.1.1.2, hk.1.1.2⟩)⟩, ⟨by repeat (first | (with_reducible first | exact HB.out | apply below_alloc | apply pw_below_drewN | apply below_drew1) | exact HB.out)⟩⟩
    case rest => as_aux_lemma =>
      clear HC11
      try clear c2
      try clear p2
      try clear c3
      try clear c6
      try clear c21
      try clear c21b0
      try clear c21b1
      try clear c23
      try clear c25
      try clear c26
      try clear c26b0
      try clear c26b1
      try clear c28
      try clear c29
      try clear c29b0
      try clear c29b1
      obtain ⟨kq, x105_10, rfl, HA, HJ10, HO_3, HO_4, HO_5, HO_6, HO_11, HB⟩ := hcut
      cases kq with
      | zero => exact absurd HA.out (by simp [laws_FnTurnedFlow.j0])
      | succ kj10 =>
        have H := HA.out
        clear HA
        simp only [laws_FnTurnedFlow.j0] at H
        by_cases c58 : x105_10 = true
        · subst c58
          have H1 : (some false) = some r := by rw [if_pos rfl] at H; exact H
          clear H
          have H := H1
          clear H1
          exact absurd ((Option.some.inj H).trans hT.out) (by decide)
        · replace c58 := Bool.eq_false_iff.mpr c58
          subst c58
          have H1 : (if t378 = 0 then ((impl_Makespan.f kj10 t370 t371).bind fun bt405 => ((impl_Makespan.f kj10 t376 t377).bind fun bt407 => (if bt405.2 = 0 then (if bt407.2 = 0 then (if bt405.1 = bt407.1 then (laws_FnTurnedFlow.j1 kj10 t370 t371 t390 bt405.1 (decide (t398 < 0))) else (laws_FnTurnedFlow.j1 kj10 t370 t371 t390 bt405.1 true)) else (laws_FnTurnedFlow.j1 kj10 t370 t371 t390 bt405.1 true)) else (laws_FnTurnedFlow.j1 kj10 t370 t371 t390 bt405.1 true)))) else (some true)) = some r := by rw [if_neg (show ¬ (false = true) by decide)] at H; exact H
          clear H
          have H := H1
          clear H1
          by_cases c59 : t378 = 0
          · rw [if_pos c59] at H
            have c59b0 : (t378 == 0) = true := beq_iff_eq.mpr c59
            have c59b1 : (t378 != 0) = false := bne_eq_false_iff_eq.mpr c59
            clear c59
            replace H := Option.bind_eq_some_iff.mp H
            obtain ⟨⟨t405, t406⟩, A600, H⟩ := H
            replace H : ((impl_Makespan.f kj10 t376 t377).bind fun bt407 => (if t406 = 0 then (if bt407.2 = 0 then (if t405 = bt407.1 then (laws_FnTurnedFlow.j1 kj10 t370 t371 t390 t405 (decide (t398 < 0))) else (laws_FnTurnedFlow.j1 kj10 t370 t371 t390 t405 true)) else (laws_FnTurnedFlow.j1 kj10 t370 t371 t390 t405 true)) else (laws_FnTurnedFlow.j1 kj10 t370 t371 t390 t405 true))) = some r := H
            have A60 := Aside0.mk A600
            clear A600
            replace H := Option.bind_eq_some_iff.mp H
            obtain ⟨⟨t407, t408⟩, A610, H⟩ := H
            replace H : (if t406 = 0 then (if t408 = 0 then (if t405 = t407 then (laws_FnTurnedFlow.j1 kj10 t370 t371 t390 t405 (decide (t398 < 0))) else (laws_FnTurnedFlow.j1 kj10 t370 t371 t390 t405 true)) else (laws_FnTurnedFlow.j1 kj10 t370 t371 t390 t405 true)) else (laws_FnTurnedFlow.j1 kj10 t370 t371 t390 t405 true)) = some r := H
            have A61 := Aside0.mk A610
            clear A610
            have HC62 := Aside0.mk H
            clear H
            go_upto_region 16 with (first | (go_at_call 51; (with_reducible refine (impl_Makespan.calls kj10 _ _ t370 _ _ t371 t405 t406 _ ?side1 ?side2 ?side3 ?side4 A60.out).mono ?_); (case side1 => repeat (first | exact (Kd.R_reads' HO_3.out).2.2 | (with_reducible refine Kd.C_alloc ?_ _) | (with_reducible refine Kd.C_drewN ?_ _) | (with_reducible refine Kd.C_drew ?_))); (case side2 => exact (Kd.R_reads' HO_3.out).2.1); (case side3 => repeat (first | exact (Kd.R_reads' HO_4.out).2.2 | (with_reducible refine Kd.C_alloc ?_ _) | (with_reducible refine Kd.C_drewN ?_ _) | (with_reducible refine Kd.C_drew ?_))); (case side4 => exact (Kd.R_reads' HO_4.out).2.1); rintro e w63 ⟨rfl, hb⟩; have n0_ := Aside0.mk (Kd.R_below (by (with_reducible repeat (first | apply Kd.R_alloc | apply Kd.R_drewN | apply Kd.R_drew)); exact HO_3.out) hb); have n1_ := Aside0.mk (Kd.R_below (by (with_reducible repeat (first | apply Kd.R_alloc | apply Kd.R_drewN | apply Kd.R_drew)); exact HO_4.out) hb); have n2_ := Aside0.mk (Kd.R_below (by (with_reducible repeat (first | apply Kd.R_alloc | apply Kd.R_drewN | apply Kd.R_drew)); exact HO_5.out) hb); have n3_ := Aside0.mk (Kd.R_below (by (with_reducible repeat (first | apply Kd.R_alloc | apply Kd.R_drewN | apply Kd.R_drew)); exact HO_6.out) hb); have n4_ := Aside0.mk (Kd.S_below (by (with_reducible repeat (first | apply Kd.S_alloc | apply Kd.S_drewN | apply Kd.S_drew)); exact HO_11.out) hb); have n5_ := Aside0.mk (below_step (by repeat (first | (with_reducible first | exact HB.out | apply below_alloc | apply pw_below_drewN | apply below_drew1) | exact HB.out)) hb); clear HO_3; clear HO_4; clear HO_5; clear HO_6; clear HO_11; clear HB; have HO_3 := n0_; have HO_4 := n1_; have HO_5 := n2_; have HO_6 := n3_; have HO_11 := n4_; have HB := n5_; clear n0_ n1_ n2_ n3_ n4_ n5_; (try clear hb); (try clear hb2); (try clear hk); (try clear hi); obtain ⟨Ao64, co64, eo64⟩ := Kd.R_slice HO_5.out; subst eo64; obtain ⟨Ao65, co65, eo65⟩ := Kd.R_slice HO_6.out; subst eo65) | (go_at_call 51; (with_reducible refine (impl_Makespan.calls kj10 _ _ t376 _ _ t377 t407 t408 _ ?side1 ?side2 ?side3 ?side4 A61.out).mono ?_); (case side1 => repeat (first | exact (Kd.R_reads' HO_5.out).2.2 | (with_reducible refine Kd.C_alloc ?_ _) | (with_reducible refine Kd.C_drewN ?_ _) | (with_reducible refine Kd.C_drew ?_))); (case side2 => exact (Kd.R_reads' HO_5.out).2.1); (case side3 => repeat (first | exact (Kd.R_reads' HO_6.out).2.2 | (with_reducible refine Kd.C_alloc ?_ _) | (with_reducible refine Kd.C_drewN ?_ _) | (with_reducible refine Kd.C_drew ?_))); (case side4 => exact (Kd.R_reads' HO_6.out).2.1); rintro e w66 ⟨rfl, hb⟩; have n0_ := Aside0.mk (Kd.R_below (by (with_reducible repeat (first | apply Kd.R_alloc | apply Kd.R_drewN | apply Kd.R_drew)); exact HO_3.out) hb); have n1_ := Aside0.mk (Kd.R_below (by (with_reducible repeat (first | apply Kd.R_alloc | apply Kd.R_drewN | apply Kd.R_drew)); exact HO_4.out) hb); have n2_ := Aside0.mk (Kd.R_below (by (with_reducible repeat (first | apply Kd.R_alloc | apply Kd.R_drewN | apply Kd.R_drew)); exact HO_5.out) hb); have n3_ := Aside0.mk (Kd.R_below (by (with_reducible repeat (first | apply Kd.R_alloc | apply Kd.R_drewN | apply Kd.R_drew)); exact HO_6.out) hb); have n4_ := Aside0.mk (Kd.S_below (by (with_reducible repeat (first | apply Kd.S_alloc | apply Kd.S_drewN | apply Kd.S_drew)); exact HO_11.out) hb); have n5_ := Aside0.mk (below_step (by repeat (first | (with_reducible first | exact HB.out | apply below_alloc | apply pw_below_drewN | apply below_drew1) | exact HB.out)) hb); clear HO_3; clear HO_4; clear HO_5; clear HO_6; clear HO_11; clear HB; have HO_3 := n0_; have HO_4 := n1_; have HO_5 := n2_; have HO_6 := n3_; have HO_11 := n4_; have HB := n5_; clear n0_ n1_ n2_ n3_ n4_ n5_; (try clear hb); (try clear hb2); (try clear hk); (try clear hi)))
            repeat (go_quiet (first | (go_at_call 51; (with_reducible refine (impl_Makespan.calls kj10 _ _ t370 _ _ t371 t405 t406 _ ?side1 ?side2 ?side3 ?side4 A60.out).mono ?_); (case side1 => repeat (first | exact (Kd.R_reads' HO_3.out).2.2 | (with_reducible refine Kd.C_alloc ?_ _) | (with_reducible refine Kd.C_drewN ?_ _) | (with_reducible refine Kd.C_drew ?_))); (case side2 => exact (Kd.R_reads' HO_3.out).2.1); (case side3 => repeat (first | exact (Kd.R_reads' HO_4.out).2.2 | (with_reducible refine Kd.C_alloc ?_ _) | (with_reducible refine Kd.C_drewN ?_ _) | (with_reducible refine Kd.C_drew ?_))); (case side4 => exact (Kd.R_reads' HO_4.out).2.1); rintro e w63 ⟨rfl, hb⟩; have n0_ := Aside0.mk (Kd.R_below (by (with_reducible repeat (first | apply Kd.R_alloc | apply Kd.R_drewN | apply Kd.R_drew)); exact HO_3.out) hb); have n1_ := Aside0.mk (Kd.R_below (by (with_reducible repeat (first | apply Kd.R_alloc | apply Kd.R_drewN | apply Kd.R_drew)); exact HO_4.out) hb); have n2_ := Aside0.mk (Kd.R_below (by (with_reducible repeat (first | apply Kd.R_alloc | apply Kd.R_drewN | apply Kd.R_drew)); exact HO_5.out) hb); have n3_ := Aside0.mk (Kd.R_below (by (with_reducible repeat (first | apply Kd.R_alloc | apply Kd.R_drewN | apply Kd.R_drew)); exact HO_6.out) hb); have n4_ := Aside0.mk (Kd.S_below (by (with_reducible repeat (first | apply Kd.S_alloc | apply Kd.S_drewN | apply Kd.S_drew)); exact HO_11.out) hb); have n5_ := Aside0.mk (below_step (by repeat (first | (with_reducible first | exact HB.out | apply below_alloc | apply pw_below_drewN | apply below_drew1) | exact HB.out)) hb); clear HO_3; clear HO_4; clear HO_5; clear HO_6; clear HO_11; clear HB; have HO_3 := n0_; have HO_4 := n1_; have HO_5 := n2_; have HO_6 := n3_; have HO_11 := n4_; have HB := n5_; clear n0_ n1_ n2_ n3_ n4_ n5_; (try clear hb); (try clear hb2); (try clear hk); (try clear hi); obtain ⟨Ao64, co64, eo64⟩ := Kd.R_slice HO_5.out; subst eo64; obtain ⟨Ao65, co65, eo65⟩ := Kd.R_slice HO_6.out; subst eo65) | (go_at_call 51; (with_reducible refine (impl_Makespan.calls kj10 _ _ t376 _ _ t377 t407 t408 _ ?side1 ?side2 ?side3 ?side4 A61.out).mono ?_); (case side1 => repeat (first | exact (Kd.R_reads' HO_5.out).2.2 | (with_reducible refine Kd.C_alloc ?_ _) | (with_reducible refine Kd.C_drewN ?_ _) | (with_reducible refine Kd.C_drew ?_))); (case side2 => exact (Kd.R_reads' HO_5.out).2.1); (case side3 => repeat (first | exact (Kd.R_reads' HO_6.out).2.2 | (with_reducible refine Kd.C_alloc ?_ _) | (with_reducible refine Kd.C_drewN ?_ _) | (with_reducible refine Kd.C_drew ?_))); (case side4 => exact (Kd.R_reads' HO_6.out).2.1); rintro e w66 ⟨rfl, hb⟩; have n0_ := Aside0.mk (Kd.R_below (by (with_reducible repeat (first | apply Kd.R_alloc | apply Kd.R_drewN | apply Kd.R_drew)); exact HO_3.out) hb); have n1_ := Aside0.mk (Kd.R_below (by (with_reducible repeat (first | apply Kd.R_alloc | apply Kd.R_drewN | apply Kd.R_drew)); exact HO_4.out) hb); have n2_ := Aside0.mk (Kd.R_below (by (with_reducible repeat (first | apply Kd.R_alloc | apply Kd.R_drewN | apply Kd.R_drew)); exact HO_5.out) hb); have n3_ := Aside0.mk (Kd.R_below (by (with_reducible repeat (first | apply Kd.R_alloc | apply Kd.R_drewN | apply Kd.R_drew)); exact HO_6.out) hb); have n4_ := Aside0.mk (Kd.S_below (by (with_reducible repeat (first | apply Kd.S_alloc | apply Kd.S_drewN | apply Kd.S_drew)); exact HO_11.out) hb); have n5_ := Aside0.mk (below_step (by repeat (first | (with_reducible first | exact HB.out | apply below_alloc | apply pw_below_drewN | apply below_drew1) | exact HB.out)) hb); clear HO_3; clear HO_4; clear HO_5; clear HO_6; clear HO_11; clear HB; have HO_3 := n0_; have HO_4 := n1_; have HO_5 := n2_; have HO_6 := n3_; have HO_11 := n4_; have HB := n5_; clear n0_ n1_ n2_ n3_ n4_ n5_; (try clear hb); (try clear hb2); (try clear hk); (try clear hi))); go_upto_region 16 with (first | (go_at_call 51; (with_reducible refine (impl_Makespan.calls kj10 _ _ t370 _ _ t371 t405 t406 _ ?side1 ?side2 ?side3 ?side4 A60.out).mono ?_); (case side1 => repeat (first | exact (Kd.R_reads' HO_3.out).2.2 | (with_reducible refine Kd.C_alloc ?_ _) | (with_reducible refine Kd.C_drewN ?_ _) | (with_reducible refine Kd.C_drew ?_))); (case side2 => exact (Kd.R_reads' HO_3.out).2.1); (case side3 => repeat (first | exact (Kd.R_reads' HO_4.out).2.2 | (with_reducible refine Kd.C_alloc ?_ _) | (with_reducible refine Kd.C_drewN ?_ _) | (with_reducible refine Kd.C_drew ?_))); (case side4 => exact (Kd.R_reads' HO_4.out).2.1); rintro e w63 ⟨rfl, hb⟩; have n0_ := Aside0.mk (Kd.R_below (by (with_reducible repeat (first | apply Kd.R_alloc | apply Kd.R_drewN | apply Kd.R_drew)); exact HO_3.out) hb); have n1_ := Aside0.mk (Kd.R_below (by (with_reducible repeat (first | apply Kd.R_alloc | apply Kd.R_drewN | apply Kd.R_drew)); exact HO_4.out) hb); have n2_ := Aside0.mk (Kd.R_below (by (with_reducible repeat (first | apply Kd.R_alloc | apply Kd.R_drewN | apply Kd.R_drew)); exact HO_5.out) hb); have n3_ := Aside0.mk (Kd.R_below (by (with_reducible repeat (first | apply Kd.R_alloc | apply Kd.R_drewN | apply Kd.R_drew)); exact HO_6.out) hb); have n4_ := Aside0.mk (Kd.S_below (by (with_reducible repeat (first | apply Kd.S_alloc | apply Kd.S_drewN | apply Kd.S_drew)); exact HO_11.out) hb); have n5_ := Aside0.mk (below_step (by repeat (first | (with_reducible first | exact HB.out | apply below_alloc | apply pw_below_drewN | apply below_drew1) | exact HB.out)) hb); clear HO_3; clear HO_4; clear HO_5; clear HO_6; clear HO_11; clear HB; have HO_3 := n0_; have HO_4 := n1_; have HO_5 := n2_; have HO_6 := n3_; have HO_11 := n4_; have HB := n5_; clear n0_ n1_ n2_ n3_ n4_ n5_; (try clear hb); (try clear hb2); (try clear hk); (try clear hi); obtain ⟨Ao64, co64, eo64⟩ := Kd.R_slice HO_5.out; subst eo64; obtain ⟨Ao65, co65, eo65⟩ := Kd.R_slice HO_6.out; subst eo65) | (go_at_call 51; (with_reducible refine (impl_Makespan.calls kj10 _ _ t376 _ _ t377 t407 t408 _ ?side1 ?side2 ?side3 ?side4 A61.out).mono ?_); (case side1 => repeat (first | exact (Kd.R_reads' HO_5.out).2.2 | (with_reducible refine Kd.C_alloc ?_ _) | (with_reducible refine Kd.C_drewN ?_ _) | (with_reducible refine Kd.C_drew ?_))); (case side2 => exact (Kd.R_reads' HO_5.out).2.1); (case side3 => repeat (first | exact (Kd.R_reads' HO_6.out).2.2 | (with_reducible refine Kd.C_alloc ?_ _) | (with_reducible refine Kd.C_drewN ?_ _) | (with_reducible refine Kd.C_drew ?_))); (case side4 => exact (Kd.R_reads' HO_6.out).2.1); rintro e w66 ⟨rfl, hb⟩; have n0_ := Aside0.mk (Kd.R_below (by (with_reducible repeat (first | apply Kd.R_alloc | apply Kd.R_drewN | apply Kd.R_drew)); exact HO_3.out) hb); have n1_ := Aside0.mk (Kd.R_below (by (with_reducible repeat (first | apply Kd.R_alloc | apply Kd.R_drewN | apply Kd.R_drew)); exact HO_4.out) hb); have n2_ := Aside0.mk (Kd.R_below (by (with_reducible repeat (first | apply Kd.R_alloc | apply Kd.R_drewN | apply Kd.R_drew)); exact HO_5.out) hb); have n3_ := Aside0.mk (Kd.R_below (by (with_reducible repeat (first | apply Kd.R_alloc | apply Kd.R_drewN | apply Kd.R_drew)); exact HO_6.out) hb); have n4_ := Aside0.mk (Kd.S_below (by (with_reducible repeat (first | apply Kd.S_alloc | apply Kd.S_drewN | apply Kd.S_drew)); exact HO_11.out) hb); have n5_ := Aside0.mk (below_step (by repeat (first | (with_reducible first | exact HB.out | apply below_alloc | apply pw_below_drewN | apply below_drew1) | exact HB.out)) hb); clear HO_3; clear HO_4; clear HO_5; clear HO_6; clear HO_11; clear HB; have HO_3 := n0_; have HO_4 := n1_; have HO_5 := n2_; have HO_6 := n3_; have HO_11 := n4_; have HB := n5_; clear n0_ n1_ n2_ n3_ n4_ n5_; (try clear hb); (try clear hb2); (try clear hk); (try clear hi))))
            (try simp only [Act.put, List.setIfInBounds_toArray, List.set_cons_zero, List.set_cons_succ])
            go_cut [134] (fun v134 wc => ∃ (kq : Nat) (x134_61 : Bool), v134 = .bool x134_61 ∧ Aside0 (laws_FnTurnedFlow.j1 kq t370 t371 t390 t405 x134_61 = some r) ∧ Aside0 (kq ≤ kj10) ∧ Aside0 (Kd.R k62 62 wc w.heap.size (fun _ => True) (.slice Ao13 t370.length co13) t370) ∧ Aside0 (Kd.R (Kd.int .i64) 2 wc w.heap.size (fun _ => True) (.slice Ao14 t371.length co14) t371) ∧ Aside0 (Kd.S (Kd.slice 2 (Kd.int .i64)) 23 wc w.heap.size (fun k_ => some k_ ≠ ((.slice Ao14 t371.length co14) : Value).ownBlock) v392 t390) ∧ Aside0 (Below w.heap.size w wc))
            case first => as_aux_lemma =>
              have H := HC62.out
              clear HC62
              by_cases c67 : t406 = 0
              · rw [if_pos c67] at H
                have c67b0 : (t406 == 0) = true := beq_iff_eq.mpr c67
                have c67b1 : (t406 != 0) = false := bne_eq_false_iff_eq.mpr c67
                clear c67
                (first | rw [c67b0] | (simp only [i64_w, i32_w]; rw [c67b0]) | skip)
                by_cases c68 : t408 = 0
                · rw [if_pos c68] at H
                  have c68b0 : (t408 == 0) = true := beq_iff_eq.mpr c68
                  have c68b1 : (t408 != 0) = false := bne_eq_false_iff_eq.mpr c68
                  clear c68
                  by_cases c69 : t405 = t407
                  · rw [if_pos c69] at H
                    have c69b0 : (t405 == t407) = true := beq_iff_eq.mpr c69
                    have c69b1 : (t405 != t407) = false := bne_eq_false_iff_eq.mpr c69
                    clear c69
                    have H' := Aside0.mk H
                    clear H
                    as_aux_lemma =>
                      go_wp2
                      repeat (go_quiet (fail); try go_wp2)
                      go_meet
                      case rel => exact ⟨_, (decide (t398 < 0)), (by first | rfl | (simp; done) | (simp [*]; done)), H', ⟨by have := HJ10.out; first | omega | exact Nat.le_refl _⟩, ⟨by (with_reducible repeat (first | apply Kd.R_alloc | apply Kd.R_drewN | apply Kd.R_drew)); exact Kd.R_mono HO_3.out (fun _ hk => trivial)⟩, ⟨by (with_reducible repeat (first | apply Kd.R_alloc | apply Kd.R_drewN | apply Kd.R_drew)); exact Kd.R_mono HO_4.out (fun _ hk => trivial)⟩, ⟨by (with_reducible repeat (first | apply Kd.S_alloc | apply Kd.S_drewN | apply Kd.S_drew)); exact Kd.S_mono HO_11.out (fun _ hk => hk.1)⟩, ⟨by repeat (first | (with_reducible first | exact HB.out | apply below_alloc | apply pw_below_drewN | apply below_drew1) | exact HB.out)⟩⟩
                  · rw [if_neg c69] at H
                    have c69b0 : (t405 == t407) = false := beq_eq_false_iff_ne.mpr c69
                    have c69b1 : (t405 != t407) = true := bne_iff_ne.mpr c69
                    have H' := Aside0.mk H
                    clear H
                    as_aux_lemma =>
                      go_wp2
                      repeat (go_quiet (fail); try go_wp2)
                      go_meet
                      case rel => exact ⟨_, (true), (by first | rfl | (simp; done) | (simp [*]; done)), H', ⟨by have := HJ10.out; first | omega | exact Nat.le_refl _⟩, ⟨by (with_reducible repeat (first | apply Kd.R_alloc | apply Kd.R_drewN | apply Kd.R_drew)); exact Kd.R_mono HO_3.out (fun _ hk => trivial)⟩, ⟨by (with_reducible repeat (first | apply Kd.R_alloc | apply Kd.R_drewN | apply Kd.R_drew)); exact Kd.R_mono HO_4.out (fun _ hk => trivial)⟩, ⟨by (with_reducible repeat (first | apply Kd.S_alloc | apply Kd.S_drewN | apply Kd.S_drew)); exact Kd.S_mono HO_11.out (fun _ hk => hk.1)⟩, ⟨by repeat (first | (with_reducible first | exact HB.out | apply below_alloc | apply pw_below_drewN | apply below_drew1) | exact HB.out)⟩⟩
                · rw [if_neg c68] at H
                  have c68b0 : (t408 == 0) = false := beq_eq_false_iff_ne.mpr c68
                  have c68b1 : (t408 != 0) = true := bne_iff_ne.mpr c68
                  have H' := Aside0.mk H
                  clear H
                  as_aux_lemma =>
                    go_wp2
                    repeat (go_quiet (fail); try go_wp2)
                    go_meet
                    case rel => exact ⟨_, (true), (by first | rfl | (simp; done) | (simp [*]; done)), H', ⟨by have := HJ10.out; first | omega | exact Nat.le_refl _⟩, ⟨by (with_reducible repeat (first | apply Kd.R_alloc | apply Kd.R_drewN | apply Kd.R_drew)); exact Kd.R_mono HO_3.out (fun _ hk => trivial)⟩, ⟨by (with_reducible repeat (first | apply Kd.R_alloc | apply Kd.R_drewN | apply Kd.R_drew)); exact Kd.R_mono HO_4.out (fun _ hk => trivial)⟩, ⟨by (with_reducible repeat (first | apply Kd.S_alloc | apply Kd.S_drewN | apply Kd.S_drew)); exact Kd.S_mono HO_11.out (fun _ hk => hk.1)⟩, ⟨by repeat (first | (with_reducible first | exact HB.out | apply below_alloc | apply pw_below_drewN | apply below_drew1) | exact HB.out)⟩⟩
              · rw [if_neg c67] at H
                have c67b0 : (t406 == 0) = false := beq_eq_false_iff_ne.mpr c67
                have c67b1 : (t406 != 0) = true := bne_iff_ne.mpr c67
                (first | rw [c67b0] | (simp only [i64_w, i32_w]; rw [c67b0]) | skip)
                have H' := Aside0.mk H
                clear H
                as_aux_lemma =>
                  go_wp2
                  repeat (go_quiet (fail); try go_wp2)
                  go_meet
                  case rel => exact ⟨_, (true), (by first | rfl | (simp; done) | (simp [*]; done)), H', ⟨by have := HJ10.out; first | omega | exact Nat.le_refl _⟩, ⟨by (with_reducible repeat (first | apply Kd.R_alloc | apply Kd.R_drewN | apply Kd.R_drew)); exact Kd.R_mono HO_3.out (fun _ hk => trivial)⟩, ⟨by (with_reducible repeat (first | apply Kd.R_alloc | apply Kd.R_drewN | apply Kd.R_drew)); exact Kd.R_mono HO_4.out (fun _ hk => trivial)⟩, ⟨by (with_reducible repeat (first | apply Kd.S_alloc | apply Kd.S_drewN | apply Kd.S_drew)); exact Kd.S_mono HO_11.out (fun _ hk => hk.1)⟩, ⟨by repeat (first | (with_reducible first | exact HB.out | apply below_alloc | apply pw_below_drewN | apply below_drew1) | exact HB.out)⟩⟩
            case rest => as_aux_lemma =>
              clear HC62
              try clear c2
              try clear p2
              try clear c3
              try clear c5
              try clear c6
              try clear c21
              try clear c21b0
              try clear c21b1
              try clear c23
              try clear c25
              try clear c26
              try clear c26b0
              try clear c26b1
              try clear c28
              try clear c29
              try clear c29b0
              try clear c29b1
              try clear c58
              try clear c59
              try clear c59b0
              try clear c59b1
              try clear c67
              try clear c67b0
              try clear c67b1
              try clear c68
              try clear c68b0
              try clear c68b1
              try clear c69
              try clear c69b0
              try clear c69b1
              try clear p2
              obtain ⟨kq, x134_61, rfl, HA, HJ61, HO_3, HO_4, HO_11, HB⟩ := hcut
              cases kq with
              | zero => exact absurd HA.out (by simp [laws_FnTurnedFlow.j1])
              | succ kj61 =>
                have H := HA.out
                clear HA
                simp only [laws_FnTurnedFlow.j1] at H
                by_cases c70 : x134_61 = true
                · subst c70
                  have H1 : (some false) = some r := by rw [if_pos rfl] at H; exact H
                  clear H
                  have H := H1
                  clear H1
                  exact absurd ((Option.some.inj H).trans hT.out) (by decide)
                · replace c70 := Bool.eq_false_iff.mpr c70
                  subst c70
                  have H1 : (laws_FnTurnedFlow.l0 kj61 t370 t371 t390 t405 0) = some r := by rw [if_neg (show ¬ (false = true) by decide)] at H; exact H
                  clear H
                  have H := H1
                  clear H1
                  have H' := Aside0.mk H
                  clear H
                  as_aux_lemma =>
                    go_wp2
                    repeat (go_quiet (fail); try go_wp2)
                    go_loopg [23] kj61 (fun kq v23 w' => ∃ (x23_3 : Int), v23 = .int .i64 x23_3 ∧ Aside0 (laws_FnTurnedFlow.l0 kq t370 t371 t390 t405 x23_3 = some r) ∧ Aside0 (kq ≤ kj61) ∧ Aside0 (Kd.R k62 62 w' w.heap.size (fun _ => True) (.slice Ao13 t370.length co13) t370) ∧ Aside0 (Kd.R (Kd.int .i64) 2 w' w.heap.size (fun _ => True) (.slice Ao14 t371.length co14) t371) ∧ Aside0 (Kd.S (Kd.slice 2 (Kd.int .i64)) 23 w' w.heap.size (fun k_ => some k_ ≠ ((.slice Ao14 t371.length co14) : Value).ownBlock) v392 t390) ∧ Aside0 (Below w.heap.size w w'))
                    case atStart => exact ⟨(0), (by first | rfl | (simp; done) | (simp [*]; done)), H', ⟨Nat.le_refl _⟩, ⟨by (with_reducible repeat (first | apply Kd.R_alloc | apply Kd.R_drewN | apply Kd.R_drew)); exact HO_3.out⟩, ⟨by (with_reducible repeat (first | apply Kd.R_alloc | apply Kd.R_drewN | apply Kd.R_drew)); exact HO_4.out⟩, ⟨by (with_reducible repeat (first | apply Kd.S_alloc | apply Kd.S_drewN | apply Kd.S_drew)); exact HO_11.out⟩, ⟨by repeat (first | (with_reducible first | exact HB.out | apply below_alloc | apply pw_below_drewN | apply below_drew1) | exact HB.out)⟩⟩
                    case round =>
                      clear H'
                      try clear c2
                      try clear p2
                      try clear c3
                      try clear c5
                      try clear c6
                      try clear c7
                      try clear c21
                      try clear c21b0
                      try clear c21b1
                      try clear c23
                      try clear c25
                      try clear c26
                      try clear c26b0
                      try clear c26b1
                      try clear c28
                      try clear c29
                      try clear c29b0
                      try clear c29b1
                      try clear c58
                      try clear c59
                      try clear c59b0
                      try clear c59b1
                      try clear c67
                      try clear c67b0
                      try clear c67b1
                      try clear c68
                      try clear c68b0
                      try clear c68b1
                      try clear c69
                      try clear c69b0
                      try clear c69b1
                      try clear c70
                      try clear p2
                      obtain ⟨x23_3, rfl, HA, HK3, HO_3, HO_4, HO_11, HB⟩ := hrel
                      cases gk with
                      | zero => exact absurd HA.out (by simp [laws_FnTurnedFlow.l0])
                      | succ k3 =>
                        have H := HA.out
                        clear HA
                        simp only [laws_FnTurnedFlow.l0] at H
                        by_cases c71 : x23_3 < (t371.length : Int)
                        · rw [if_pos c71] at H
                          have c71b0 : decide (x23_3 < (t371.length : Int)) = true := decide_eq_true c71
                          clear c71
                          by_cases c72 : 0 ≤ x23_3
                          · rw [if_pos c72] at H
                            have c72b0 : decide (0 ≤ x23_3) = true := decide_eq_true c72
                            clear c72
                            have HC73 := Aside0.mk H
                            clear H
                            have p409 : 0 ≤ (x23_3 : Int) := of_decide_eq_true (by first | (with_reducible assumption) | assumption)
                            have q409 : x23_3 < (t371.length : Int) := of_decide_eq_true (by first | (with_reducible assumption) | assumption)
                            obtain ⟨ad409, e409, hx409_0⟩ := Kd.at_int (Kd.R_reads' HO_4.out).2.2 x23_3 p409 q409
                            cases e409
                            replace p409 := eq_true p409
                            replace q409 := eq_true q409
                            go_upto_region 22 with (fail)
                            repeat (go_quiet (fail); go_upto_region 22 with (fail))
                            go_cut [179] (fun v179 wc => ∃ (kq : Nat) (x179_72 : Bool), v179 = .bool x179_72 ∧ Aside0 (laws_FnTurnedFlow.j3 kq t370 t371 t390 t405 x23_3 (rd t371 x23_3) x179_72 = some r) ∧ Aside0 (kq ≤ k3) ∧ Aside0 (Kd.R k62 62 wc w.heap.size (fun _ => True) (.slice Ao13 t370.length co13) t370) ∧ Aside0 (Kd.R (Kd.int .i64) 2 wc w.heap.size (fun _ => True) (.slice (some ad409) t371.length co14) t371) ∧ Aside0 (Kd.S (Kd.slice 2 (Kd.int .i64)) 23 wc w.heap.size (fun k_ => some k_ ≠ ((.slice (some ad409) t371.length co14) : Value).ownBlock) v392 t390) ∧ Aside0 (Below w.heap.size w wc))
                            case first => as_aux_lemma =>
                              have H := HC73.out
                              clear HC73
                              by_cases c74 : 0 ≤ (rd t371 x23_3)
                              · rw [if_pos c74] at H
                                have c74b0 : decide (0 ≤ (rd t371 x23_3)) = true := decide_eq_true c74
                                clear c74
                                (first | rw [c74b0] | (simp only [i64_w, i32_w]; rw [c74b0]) | skip)
                                by_cases c75 : (rd t371 x23_3) < (t390.length : Int)
                                · rw [if_pos c75] at H
                                  have c75b0 : decide ((rd t371 x23_3) < (t390.length : Int)) = true := decide_eq_true c75
                                  clear c75
                                  by_cases c76 : 1 < ((rd_L2 t390 (rd t371 x23_3)).length : Int)
                                  · rw [if_pos c76] at H
                                    have c76b0 : decide (1 < ((rd_L2 t390 (rd t371 x23_3)).length : Int)) = true := decide_eq_true c76
                                    have c76b1 : decide (1 < (rd_L2 t390 (rd t371 x23_3)).length) = true := decide_eq_true (by omega)
                                    clear c76
                                    by_cases c77 : 0 < ((rd_L2 t390 (rd t371 x23_3)).length : Int)
                                    · rw [if_pos c77] at H
                                      have c77b0 : decide (0 < ((rd_L2 t390 (rd t371 x23_3)).length : Int)) = true := decide_eq_true c77
                                      have c77b1 : decide (0 < (rd_L2 t390 (rd t371 x23_3)).length) = true := decide_eq_true (by omega)
                                      clear c77
                                      by_cases c78 : (rd t371 x23_3) < (t370.length : Int)
                                      · rw [if_pos c78] at H
                                        have c78b0 : decide ((rd t371 x23_3) < (t370.length : Int)) = true := decide_eq_true c78
                                        clear c78
                                        by_cases c79 : (rd (rd_L2 t390 (rd t371 x23_3)) 1) < (wrap64 ((rd (rd_L2 t390 (rd t371 x23_3)) 0) + ((rd_T62 t370 (rd t371 x23_3)).f0)))
                                        · rw [if_pos c79] at H
                                          have c79b0 : decide ((rd (rd_L2 t390 (rd t371 x23_3)) 1) < (wrap64 ((rd (rd_L2 t390 (rd t371 x23_3)) 0) + ((rd_T62 t370 (rd t371 x23_3)).f0)))) = true := decide_eq_true c79
                                          clear c79
                                          have H' := Aside0.mk H
                                          clear H
                                          obtain ⟨Ao80, co80, eo80⟩ := Kd.S_slice HO_11.out
                                          subst eo80
                                          have p410 : 0 ≤ ((rd t371 x23_3) : Int) := of_decide_eq_true (by first | (with_reducible assumption) | assumption)
                                          have q410 : (rd t371 x23_3) < (t390.length : Int) := of_decide_eq_true (by first | (with_reducible assumption) | assumption)
                                          obtain ⟨ad410, A410_0, c410_0, e410, hx410_0, hl410_0, hi410_0⟩ := at_L2 (Kd.S_reads' HO_11.out).2.2 (rd t371 x23_3) p410 q410
                                          cases e410
                                          obtain ⟨ce410, hce410, hMe410, hcc410⟩ := Kd.S_get HO_11.out [] (rd t371 x23_3) p410 (by first | exact q410 | exact of_decide_eq_true (by first | (with_reducible assumption) | assumption) | (have e_ := (Kd.S_reads' HO_11.out).1; omega))
                                          obtain ⟨ve410_0, rfl, ge410_0⟩ := hMe410
                                          have hv410_0 := hcc410 0 _ rfl
                                          rw [Nat.add_zero, show ((Kd.slice 2 (Kd.int .i64))).sz = 1 from rfl, Nat.mul_one] at hv410_0
                                          replace hv410_0 := Option.some.inj (hv410_0.symm.trans hx410_0)
                                          rw [hv410_0] at ge410_0
                                          have HL410_0 := Aside0.mk (show Kd.R (Kd.int .i64) 2 _ _ _ _ (rd_L2 t390 (rd t371 x23_3)) from ge410_0)
                                          clear hv410_0 ge410_0
                                          clear hcc410 hce410
                                          have HR410_0 := Aside0.mk hi410_0
                                          have HC410_0 := Aside0.mk hl410_0
                                          clear hi410_0 hl410_0
                                          replace p410 := eq_true p410
                                          replace q410 := eq_true q410
                                          have p411 : 0 ≤ (1 : Int) := (by omega)
                                          have q411 : 1 < ((rd_L2 t390 (rd t371 x23_3)).length : Int) := of_decide_eq_true (by first | (with_reducible assumption) | assumption)
                                          obtain ⟨ad411, e411, hx411_0⟩ := Kd.at_int (by repeat (first | (with_reducible exact HR410_0.out) | (with_reducible refine Kd.C_alloc ?_ _) | (with_reducible refine Kd.C_drewN ?_ _) | (with_reducible refine Kd.C_drew ?_) | exact HR410_0.out)) 1 p411 q411
                                          cases e411
                                          (try simp only [show (1 : Int).toNat = 1 from rfl, Nat.reduceMul, Nat.reduceEqDiff, Go.Addr.add, ↓reduceIte] at hx411_0)
                                          have qi411 : (1 < (rd_L2 t390 (rd t371 x23_3)).length) = True := eq_true (by omega)
                                          (try rw [show ((1 : Int)).toNat = 1 from rfl] at hx411_0)
                                          replace p411 := eq_true p411
                                          replace q411 := eq_true q411
                                          have p412 : 0 ≤ ((rd t371 x23_3) : Int) := of_decide_eq_true (by first | (with_reducible assumption) | assumption)
                                          have q412 : (rd t371 x23_3) < (t390.length : Int) := of_decide_eq_true (by first | (with_reducible assumption) | assumption)
                                          obtain ⟨ad412, A412_0, c412_0, e412, hx412_0, hl412_0, hi412_0⟩ := at_L2 (Kd.S_reads' HO_11.out).2.2 (rd t371 x23_3) p412 q412
                                          obtain rfl : ad410 = ad412 := (by injection e412)
                                          obtain ⟨ce412, hce412, hMe412, hcc412⟩ := Kd.S_get HO_11.out [] (rd t371 x23_3) p412 (by first | exact q412 | exact of_decide_eq_true (by first | (with_reducible assumption) | assumption) | (have e_ := (Kd.S_reads' HO_11.out).1; omega))
                                          obtain ⟨ve412_0, rfl, ge412_0⟩ := hMe412
                                          have hv412_0 := hcc412 0 _ rfl
                                          rw [Nat.add_zero, show ((Kd.slice 2 (Kd.int .i64))).sz = 1 from rfl, Nat.mul_one] at hv412_0
                                          replace hv412_0 := Option.some.inj (hv412_0.symm.trans hx412_0)
                                          rw [hv412_0] at ge412_0
                                          have HL412_0 := Aside0.mk (show Kd.R (Kd.int .i64) 2 _ _ _ _ (rd_L2 t390 (rd t371 x23_3)) from ge412_0)
                                          clear hv412_0 ge412_0
                                          clear hcc412 hce412
                                          have HR412_0 := Aside0.mk hi412_0
                                          have HC412_0 := Aside0.mk hl412_0
                                          clear hi412_0 hl412_0
                                          replace p412 := eq_true p412
                                          replace q412 := eq_true q412
                                          have ea_ := Option.some.inj (hx410_0.symm.trans hx412_0)
                                          injection ea_ with ea_ en_ ec_
                                          subst ea_
                                          subst ec_
                                          clear en_
                                          have p413 : 0 ≤ (0 : Int) := (by omega)
                                          have q413 : 0 < ((rd_L2 t390 (rd t371 x23_3)).length : Int) := of_decide_eq_true (by first | (with_reducible assumption) | assumption)
                                          obtain ⟨ad413, e413, hx413_0⟩ := Kd.at_int (by repeat (first | (with_reducible exact HR412_0.out) | (with_reducible refine Kd.C_alloc ?_ _) | (with_reducible refine Kd.C_drewN ?_ _) | (with_reducible refine Kd.C_drew ?_) | exact HR412_0.out)) 0 p413 q413
                                          cases e413
                                          have qi413 : (0 < (rd_L2 t390 (rd t371 x23_3)).length) = True := eq_true (by omega)
                                          (try rw [show ((0 : Int)).toNat = 0 from rfl] at hx413_0)
                                          (try rw [Addr.add_zero'] at hx413_0)
                                          replace p413 := eq_true p413
                                          replace q413 := eq_true q413
                                          have p414 : 0 ≤ ((rd t371 x23_3) : Int) := of_decide_eq_true (by first | (with_reducible assumption) | assumption)
                                          have q414 : (rd t371 x23_3) < (t370.length : Int) := of_decide_eq_true (by first | (with_reducible assumption) | assumption)
                                          obtain ⟨ad414, e414, hx414_0, hx414_1⟩ := at_T62 (Kd.R_reads' HO_3.out).2.2 (rd t371 x23_3) p414 q414
                                          cases e414
                                          replace p414 := eq_true p414
                                          replace q414 := eq_true q414
                                          go_wp2
                                          repeat (go_quiet (fail); try go_wp2)
                                          go_meet
                                          case rel => exact ⟨_, (true), (by first | rfl | (simp; done) | (simp [*]; done)), H', ⟨by have := HJ10.out; have := HJ61.out; have := HK3.out; first | omega | exact Nat.le_refl _⟩, ⟨by (with_reducible repeat (first | apply Kd.R_alloc | apply Kd.R_drewN | apply Kd.R_drew)); exact HO_3.out⟩, ⟨by (with_reducible repeat (first | apply Kd.R_alloc | apply Kd.R_drewN | apply Kd.R_drew)); exact HO_4.out⟩, ⟨by (with_reducible repeat (first | apply Kd.S_alloc | apply Kd.S_drewN | apply Kd.S_drew)); exact HO_11.out⟩, ⟨by repeat (first | (with_reducible first | exact HB.out | apply below_alloc | apply pw_below_drewN | apply below_drew1) | exact HB.out)⟩⟩
                                        · rw [if_neg c79] at H
                                          have c79b0 : decide ((rd (rd_L2 t390 (rd t371 x23_3)) 1) < (wrap64 ((rd (rd_L2 t390 (rd t371 x23_3)) 0) + ((rd_T62 t370 (rd t371 x23_3)).f0)))) = false := decide_eq_false c79
                                          clear c79
                                          have H' := Aside0.mk H
                                          clear H
                                          obtain ⟨Ao81, co81, eo81⟩ := Kd.S_slice HO_11.out
                                          subst eo81
                                          have p410 : 0 ≤ ((rd t371 x23_3) : Int) := of_decide_eq_true (by first | (with_reducible assumption) | assumption)
                                          have q410 : (rd t371 x23_3) < (t390.length : Int) := of_decide_eq_true (by first | (with_reducible assumption) | assumption)
                                          obtain ⟨ad410, A410_0, c410_0, e410, hx410_0, hl410_0, hi410_0⟩ := at_L2 (Kd.S_reads' HO_11.out).2.2 (rd t371 x23_3) p410 q410
                                          cases e410
                                          obtain ⟨ce410, hce410, hMe410, hcc410⟩ := Kd.S_get HO_11.out [] (rd t371 x23_3) p410 (by first | exact q410 | exact of_decide_eq_true (by first | (with_reducible assumption) | assumption) | (have e_ := (Kd.S_reads' HO_11.out).1; omega))
                                          obtain ⟨ve410_0, rfl, ge410_0⟩ := hMe410
                                          have hv410_0 := hcc410 0 _ rfl
                                          rw [Nat.add_zero, show ((Kd.slice 2 (Kd.int .i64))).sz = 1 from rfl, Nat.mul_one] at hv410_0
                                          replace hv410_0 := Option.some.inj (hv410_0.symm.trans hx410_0)
                                          rw [hv410_0] at ge410_0
                                          have HL410_0 := Aside0.mk (show Kd.R (Kd.int .i64) 2 _ _ _ _ (rd_L2 t390 (rd t371 x23_3)) from ge410_0)
                                          clear hv410_0 ge410_0
                                          clear hcc410 hce410
                                          have HR410_0 := Aside0.mk hi410_0
                                          have HC410_0 := Aside0.mk hl410_0
                                          clear hi410_0 hl410_0
                                          replace p410 := eq_true p410
                                          replace q410 := eq_true q410
                                          have p411 : 0 ≤ (1 : Int) := (by omega)
                                          have q411 : 1 < ((rd_L2 t390 (rd t371 x23_3)).length : Int) := of_decide_eq_true (by first | (with_reducible assumption) | assumption)
                                          obtain ⟨ad411, e411, hx411_0⟩ := Kd.at_int (by repeat (first | (with_reducible exact HR410_0.out) | (with_reducible refine Kd.C_alloc ?_ _) | (with_reducible refine Kd.C_drewN ?_ _) | (with_reducible refine Kd.C_drew ?_) | exact HR410_0.out)) 1 p411 q411
                                          cases e411
                                          (try simp only [show (1 : Int).toNat = 1 from rfl, Nat.reduceMul, Nat.reduceEqDiff, Go.Addr.add, ↓reduceIte] at hx411_0)
                                          have qi411 : (1 < (rd_L2 t390 (rd t371 x23_3)).length) = True := eq_true (by omega)
                                          (try rw [show ((1 : Int)).toNat = 1 from rfl] at hx411_0)
                                          replace p411 := eq_true p411
                                          replace q411 := eq_true q411
                                          have p412 : 0 ≤ ((rd t371 x23_3) : Int) := of_decide_eq_true (by first | (with_reducible assumption) | assumption)
                                          have q412 : (rd t371 x23_3) < (t390.length : Int) := of_decide_eq_true (by first | (with_reducible assumption) | assumption)
                                          obtain ⟨ad412, A412_0, c412_0, e412, hx412_0, hl412_0, hi412_0⟩ := at_L2 (Kd.S_reads' HO_11.out).2.2 (rd t371 x23_3) p412 q412
                                          obtain rfl : ad410 = ad412 := (by injection e412)
                                          obtain ⟨ce412, hce412, hMe412, hcc412⟩ := Kd.S_get HO_11.out [] (rd t371 x23_3) p412 (by first | exact q412 | exact of_decide_eq_true (by first | (with_reducible assumption) | assumption) | (have e_ := (Kd.S_reads' HO_11.out).1; omega))
                                          obtain ⟨ve412_0, rfl, ge412_0⟩ := hMe412
                                          have hv412_0 := hcc412 0 _ rfl
                                          rw [Nat.add_zero, show ((Kd.slice 2 (Kd.int .i64))).sz = 1 from rfl, Nat.mul_one] at hv412_0
                                          replace hv412_0 := Option.some.inj (hv412_0.symm.trans hx412_0)
                                          rw [hv412_0] at ge412_0
                                          have HL412_0 := Aside0.mk (show Kd.R (Kd.int .i64) 2 _ _ _ _ (rd_L2 t390 (rd t371 x23_3)) from ge412_0)
                                          clear hv412_0 ge412_0
                                          clear hcc412 hce412
                                          have HR412_0 := Aside0.mk hi412_0
                                          have HC412_0 := Aside0.mk hl412_0
                                          clear hi412_0 hl412_0
                                          replace p412 := eq_true p412
                                          replace q412 := eq_true q412
                                          have ea_ := Option.some.inj (hx410_0.symm.trans hx412_0)
                                          injection ea_ with ea_ en_ ec_
                                          subst ea_
                                          subst ec_
                                          clear en_
                                          have p413 : 0 ≤ (0 : Int) := (by omega)
                                          have q413 : 0 < ((rd_L2 t390 (rd t371 x23_3)).length : Int) := of_decide_eq_true (by first | (with_reducible assumption) | assumption)
                                          obtain ⟨ad413, e413, hx413_0⟩ := Kd.at_int (by repeat (first | (with_reducible exact HR412_0.out) | (with_reducible refine Kd.C_alloc ?_ _) | (with_reducible refine Kd.C_drewN ?_ _) | (with_reducible refine Kd.C_drew ?_) | exact HR412_0.out)) 0 p413 q413
                                          cases e413
                                          have qi413 : (0 < (rd_L2 t390 (rd t371 x23_3)).length) = True := eq_true (by omega)
                                          (try rw [show ((0 : Int)).toNat = 0 from rfl] at hx413_0)
                                          (try rw [Addr.add_zero'] at hx413_0)
                                          replace p413 := eq_true p413
                                          replace q413 := eq_true q413
                                          have p414 : 0 ≤ ((rd t371 x23_3) : Int) := of_decide_eq_true (by first | (with_reducible assumption) | assumption)
                                          have q414 : (rd t371 x23_3) < (t370.length : Int) := of_decide_eq_true (by first | (with_reducible assumption) | assumption)
                                          obtain ⟨ad414, e414, hx414_0, hx414_1⟩ := at_T62 (Kd.R_reads' HO_3.out).2.2 (rd t371 x23_3) p414 q414
                                          cases e414
                                          replace p414 := eq_true p414
                                          replace q414 := eq_true q414
                                          have p415 : 0 ≤ ((rd t371 x23_3) : Int) := of_decide_eq_true (by first | (with_reducible assumption) | assumption)
                                          have q415 : (rd t371 x23_3) < (t390.length : Int) := of_decide_eq_true (by first | (with_reducible assumption) | assumption)
                                          obtain ⟨ad415, A415_0, c415_0, e415, hx415_0, hl415_0, hi415_0⟩ := at_L2 (Kd.S_reads' HO_11.out).2.2 (rd t371 x23_3) p415 q415
                                          obtain rfl : ad410 = ad415 := (by injection e415)
                                          obtain ⟨ce415, hce415, hMe415, hcc415⟩ := Kd.S_get HO_11.out [] (rd t371 x23_3) p415 (by first | exact q415 | exact of_decide_eq_true (by first | (with_reducible assumption) | assumption) | (have e_ := (Kd.S_reads' HO_11.out).1; omega))
                                          obtain ⟨ve415_0, rfl, ge415_0⟩ := hMe415
                                          have hv415_0 := hcc415 0 _ rfl
                                          rw [Nat.add_zero, show ((Kd.slice 2 (Kd.int .i64))).sz = 1 from rfl, Nat.mul_one] at hv415_0
                                          replace hv415_0 := Option.some.inj (hv415_0.symm.trans hx415_0)
                                          rw [hv415_0] at ge415_0
                                          have HL415_0 := Aside0.mk (show Kd.R (Kd.int .i64) 2 _ _ _ _ (rd_L2 t390 (rd t371 x23_3)) from ge415_0)
                                          clear hv415_0 ge415_0
                                          clear hcc415 hce415
                                          have HR415_0 := Aside0.mk hi415_0
                                          have HC415_0 := Aside0.mk hl415_0
                                          clear hi415_0 hl415_0
                                          replace p415 := eq_true p415
                                          replace q415 := eq_true q415
                                          have ea_ := Option.some.inj (hx410_0.symm.trans hx415_0)
                                          injection ea_ with ea_ en_ ec_
                                          subst ea_
                                          subst ec_
                                          clear en_
                                          have p416 : 0 ≤ (1 : Int) := (by omega)
                                          have q416 : 1 < ((rd_L2 t390 (rd t371 x23_3)).length : Int) := of_decide_eq_true (by first | (with_reducible assumption) | assumption)
                                          obtain ⟨ad416, e416, hx416_0⟩ := Kd.at_int (by repeat (first | (with_reducible exact HR415_0.out) | (with_reducible refine Kd.C_alloc ?_ _) | (with_reducible refine Kd.C_drewN ?_ _) | (with_reducible refine Kd.C_drew ?_) | exact HR415_0.out)) 1 p416 q416
                                          cases e416
                                          (try simp only [show (1 : Int).toNat = 1 from rfl, Nat.reduceMul, Nat.reduceEqDiff, Go.Addr.add, ↓reduceIte] at hx416_0)
                                          have qi416 : (1 < (rd_L2 t390 (rd t371 x23_3)).length) = True := eq_true (by omega)
                                          (try rw [show ((1 : Int)).toNat = 1 from rfl] at hx416_0)
                                          replace p416 := eq_true p416
                                          replace q416 := eq_true q416
                                          have p417 : 0 ≤ ((rd t371 x23_3) : Int) := of_decide_eq_true (by first | (with_reducible assumption) | assumption)
                                          have q417 : (rd t371 x23_3) < (t370.length : Int) := of_decide_eq_true (by first | (with_reducible assumption) | assumption)
                                          obtain ⟨ad417, e417, hx417_0, hx417_1⟩ := at_T62 (Kd.R_reads' HO_3.out).2.2 (rd t371 x23_3) p417 q417
                                          obtain rfl : ad414 = ad417 := (by injection e417)
                                          replace p417 := eq_true p417
                                          replace q417 := eq_true q417
                                          go_wp2
                                          repeat (go_quiet (fail); try go_wp2)
                                          go_meet
                                          case rel => exact ⟨_, (decide ((wrap64 ((rd (rd_L2 t390 (rd t371 x23_3)) 1) + ((rd_T62 t370 (rd t371 x23_3)).f1))) > t405)), (by first | rfl | (simp; done) | (simp [*]; done)), H', ⟨by have := HJ10.out; have := HJ61.out; have := HK3.out; first | omega | exact Nat.le_refl _⟩, ⟨by (with_reducible repeat (first | apply Kd.R_alloc | apply Kd.R_drewN | apply Kd.R_drew)); exact HO_3.out⟩, ⟨by (with_reducible repeat (first | apply Kd.R_alloc | apply Kd.R_drewN | apply Kd.R_drew)); exact HO_4.out⟩, ⟨by (with_reducible repeat (first | apply Kd.S_alloc | apply Kd.S_drewN | apply Kd.S_drew)); exact HO_11.out⟩, ⟨by repeat (first | (with_reducible first | exact HB.out | apply below_alloc | apply pw_below_drewN | apply below_drew1) | exact HB.out)⟩⟩
                                      · rw [if_neg c78] at H
                                        exact absurd H (by simp)
                                    · rw [if_neg c77] at H
                                      exact absurd H (by simp)
                                  · rw [if_neg c76] at H
                                    exact absurd H (by simp)
                                · rw [if_neg c75] at H
                                  exact absurd H (by simp)
                              · rw [if_neg c74] at H
                                exact absurd H (by simp)
                            case rest => as_aux_lemma =>
                              clear HC73
                              try clear c2
                              try clear p2
                              try clear c3
                              try clear c4
                              try clear p4
                              try clear q4
                              try clear hx4
                              try clear qi4
                              try clear c5
                              try clear c6
                              try clear p6
                              try clear c7
                              try clear c21
                              try clear c21b0
                              try clear c21b1
                              try clear c23
                              try clear c25
                              try clear c26
                              try clear c26b0
                              try clear c26b1
                              try clear c28
                              try clear c29
                              try clear c29b0
                              try clear c29b1
                              try clear p40
                              try clear q40
                              try clear hx40
                              try clear c41
                              try clear p41
                              try clear q41
                              try clear hx41
                              try clear qi41
                              try clear c58
                              try clear c59
                              try clear c59b0
                              try clear c59b1
                              try clear p64
                              try clear c67
                              try clear c67b0
                              try clear c67b1
                              try clear c68
                              try clear c68b0
                              try clear c68b1
                              try clear c69
                              try clear c69b0
                              try clear c69b1
                              try clear c70
                              try clear c71
                              try clear c71b0
                              try clear c72
                              try clear c72b0
                              try clear c74
                              try clear c74b0
                              try clear c75
                              try clear c75b0
                              try clear c76
                              try clear c76b0
                              try clear c76b1
                              try clear c77
                              try clear c77b0
                              try clear c77b1
                              try clear c78
                              try clear c78b0
                              try clear c79
                              try clear c79b0
                              try clear hx409_0
                              try clear hx410_0
                              try clear hx411_0
                              try clear hx412_0
                              try clear hx413_0
                              try clear hx414_0
                              try clear hx414_1
                              try clear hx415_0
                              try clear hx416_0
                              try clear hx417_0
                              try clear hx417_1
                              try clear p2
                              try clear p409
                              try clear p410
                              try clear p411
                              try clear p412
                              try clear p413
                              try clear p414
                              try clear p415
                              try clear p416
                              try clear p417
                              try clear q409
                              try clear q410
                              try clear q411
                              try clear q412
                              try clear q413
                              try clear q414
                              try clear q415
                              try clear q416
                              try clear q417
                              obtain ⟨kq, x179_72, rfl, HA, HJ72, HO_3, HO_4, HO_11, HB⟩ := hcut
                              cases kq with
                              | zero => exact absurd HA.out (by simp [laws_FnTurnedFlow.j3])
                              | succ kj72 =>
                                have H := HA.out
                                clear HA
                                simp only [laws_FnTurnedFlow.j3] at H
                                by_cases c82 : x179_72 = true
                                · subst c82
                                  have H1 : (some false) = some r := by rw [if_pos rfl] at H; exact H
                                  clear H
                                  have H := H1
                                  clear H1
                                  exact absurd ((Option.some.inj H).trans hT.out) (by decide)
                                · replace c82 := Bool.eq_false_iff.mpr c82
                                  subst c82
                                  have H1 : (if x23_3 > 0 then (if 0 ≤ (rd t371 x23_3) then (if (rd t371 x23_3) < (t390.length : Int) then (if 0 < ((rd_L2 t390 (rd t371 x23_3)).length : Int) then (if 0 ≤ (wrap64 (x23_3 - 1)) then (if (wrap64 (x23_3 - 1)) < (t371.length : Int) then (if 0 ≤ (rd t371 (wrap64 (x23_3 - 1))) then (if (rd t371 (wrap64 (x23_3 - 1))) < (t390.length : Int) then (if 0 < ((rd_L2 t390 (rd t371 (wrap64 (x23_3 - 1)))).length : Int) then (if (rd t371 (wrap64 (x23_3 - 1))) < (t370.length : Int) then (if (rd (rd_L2 t390 (rd t371 x23_3)) 0) < (wrap64 ((rd (rd_L2 t390 (rd t371 (wrap64 (x23_3 - 1)))) 0) + ((rd_T62 t370 (rd t371 (wrap64 (x23_3 - 1)))).f0))) then (some false) else (if 1 < ((rd_L2 t390 (rd t371 x23_3)).length : Int) then (if 1 < ((rd_L2 t390 (rd t371 (wrap64 (x23_3 - 1)))).length : Int) then (if (rd (rd_L2 t390 (rd t371 x23_3)) 1) < (wrap64 ((rd (rd_L2 t390 (rd t371 (wrap64 (x23_3 - 1)))) 1) + ((rd_T62 t370 (rd t371 (wrap64 (x23_3 - 1)))).f1))) then (some false) else (laws_FnTurnedFlow.l0 kj72 t370 t371 t390 t405 (wrap64 (x23_3 + 1)))) else (none)) else (none))) else (none)) else (none)) else (none)) else (none)) else (none)) else (none)) else (none)) else (none)) else (none)) else (laws_FnTurnedFlow.l0 kj72 t370 t371 t390 t405 (wrap64 (x23_3 + 1)))) = some r := by rw [if_neg (show ¬ (false = true) by decide)] at H; exact H
                                  clear H
                                  have H := H1
                                  clear H1
                                  by_cases c83 : x23_3 > 0
                                  · rw [if_pos c83] at H
                                    have c83b0 : decide (0 < x23_3) = true := decide_eq_true c83
                                    clear c83
                                    by_cases c84 : 0 ≤ (rd t371 x23_3)
                                    · rw [if_pos c84] at H
                                      have c84b0 : decide (0 ≤ (rd t371 x23_3)) = true := decide_eq_true c84
                                      clear c84
                                      by_cases c85 : (rd t371 x23_3) < (t390.length : Int)
                                      · rw [if_pos c85] at H
                                        have c85b0 : decide ((rd t371 x23_3) < (t390.length : Int)) = true := decide_eq_true c85
                                        clear c85
                                        by_cases c86 : 0 < ((rd_L2 t390 (rd t371 x23_3)).length : Int)
                                        · rw [if_pos c86] at H
                                          have c86b0 : decide (0 < ((rd_L2 t390 (rd t371 x23_3)).length : Int)) = true := decide_eq_true c86
                                          have c86b1 : decide (0 < (rd_L2 t390 (rd t371 x23_3)).length) = true := decide_eq_true (by omega)
                                          clear c86
                                          obtain ⟨ji87, hji87⟩ : ∃ j_ : Int, (wrap64 (x23_3 - 1)) = j_ := ⟨_, rfl⟩
                                          replace H : (if 0 ≤ (ji87) then (if (ji87) < (t371.length : Int) then (if 0 ≤ (rd t371 (ji87)) then (if (rd t371 (ji87)) < (t390.length : Int) then (if 0 < ((rd_L2 t390 (rd t371 (ji87))).length : Int) then (if (rd t371 (ji87)) < (t370.length : Int) then (if (rd (rd_L2 t390 (rd t371 x23_3)) 0) < (wrap64 ((rd (rd_L2 t390 (rd t371 (ji87))) 0) + ((rd_T62 t370 (rd t371 (ji87))).f0))) then (some false) else (if 1 < ((rd_L2 t390 (rd t371 x23_3)).length : Int) then (if 1 < ((rd_L2 t390 (rd t371 (ji87))).length : Int) then (if (rd (rd_L2 t390 (rd t371 x23_3)) 1) < (wrap64 ((rd (rd_L2 t390 (rd t371 (ji87))) 1) + ((rd_T62 t370 (rd t371 (ji87))).f1))) then (some false) else (laws_FnTurnedFlow.l0 kj72 t370 t371 t390 t405 (wrap64 (x23_3 + 1)))) else (none)) else (none))) else (none)) else (none)) else (none)) else (none)) else (none)) else (none)) = some r := by first | (rw [hji87] at H; exact H) | (simp only [hji87] at H ⊢; exact H)
                                          have hji87w : (IntKind.i64.wrap (x23_3 - 1)) = ji87 := (i64_w _).trans hji87
                                          by_cases c88 : 0 ≤ (ji87)
                                          · rw [if_pos c88] at H
                                            have c88b0 : decide (0 ≤ (ji87)) = true := decide_eq_true c88
                                            clear c88
                                            by_cases c89 : (ji87) < (t371.length : Int)
                                            · rw [if_pos c89] at H
                                              have c89b0 : decide ((ji87) < (t371.length : Int)) = true := decide_eq_true c89
                                              clear c89
                                              by_cases c90 : 0 ≤ (rd t371 (ji87))
                                              · rw [if_pos c90] at H
                                                have c90b0 : decide (0 ≤ (rd t371 (ji87))) = true := decide_eq_true c90
                                                clear c90
                                                by_cases c91 : (rd t371 (ji87)) < (t390.length : Int)
                                                · rw [if_pos c91] at H
                                                  have c91b0 : decide ((rd t371 (ji87)) < (t390.length : Int)) = true := decide_eq_true c91
                                                  clear c91
                                                  by_cases c92 : 0 < ((rd_L2 t390 (rd t371 (ji87))).length : Int)
                                                  · rw [if_pos c92] at H
                                                    have c92b0 : decide (0 < ((rd_L2 t390 (rd t371 (ji87))).length : Int)) = true := decide_eq_true c92
                                                    have c92b1 : decide (0 < (rd_L2 t390 (rd t371 (ji87))).length) = true := decide_eq_true (by omega)
                                                    clear c92
                                                    by_cases c93 : (rd t371 (ji87)) < (t370.length : Int)
                                                    · rw [if_pos c93] at H
                                                      have c93b0 : decide ((rd t371 (ji87)) < (t370.length : Int)) = true := decide_eq_true c93
                                                      clear c93
                                                      by_cases c94 : (rd (rd_L2 t390 (rd t371 x23_3)) 0) < (wrap64 ((rd (rd_L2 t390 (rd t371 (ji87))) 0) + ((rd_T62 t370 (rd t371 (ji87))).f0)))
                                                      · rw [if_pos c94] at H
                                                        have c94b0 : decide ((rd (rd_L2 t390 (rd t371 x23_3)) 0) < (wrap64 ((rd (rd_L2 t390 (rd t371 (ji87))) 0) + ((rd_T62 t370 (rd t371 (ji87))).f0)))) = true := decide_eq_true c94
                                                        clear c94
                                                        exact absurd ((Option.some.inj H).trans hT.out) (by decide)
                                                      · rw [if_neg c94] at H
                                                        have c94b0 : decide ((rd (rd_L2 t390 (rd t371 x23_3)) 0) < (wrap64 ((rd (rd_L2 t390 (rd t371 (ji87))) 0) + ((rd_T62 t370 (rd t371 (ji87))).f0)))) = false := decide_eq_false c94
                                                        clear c94
                                                        by_cases c95 : 1 < ((rd_L2 t390 (rd t371 x23_3)).length : Int)
                                                        · rw [if_pos c95] at H
                                                          have c95b0 : decide (1 < ((rd_L2 t390 (rd t371 x23_3)).length : Int)) = true := decide_eq_true c95
                                                          have c95b1 : decide (1 < (rd_L2 t390 (rd t371 x23_3)).length) = true := decide_eq_true (by omega)
                                                          clear c95
                                                          by_cases c96 : 1 < ((rd_L2 t390 (rd t371 (ji87))).length : Int)
                                                          · rw [if_pos c96] at H
                                                            have c96b0 : decide (1 < ((rd_L2 t390 (rd t371 (ji87))).length : Int)) = true := decide_eq_true c96
                                                            have c96b1 : decide (1 < (rd_L2 t390 (rd t371 (ji87))).length) = true := decide_eq_true (by omega)
                                                            clear c96
                                                            by_cases c97 : (rd (rd_L2 t390 (rd t371 x23_3)) 1) < (wrap64 ((rd (rd_L2 t390 (rd t371 (ji87))) 1) + ((rd_T62 t370 (rd t371 (ji87))).f1)))
                                                            · rw [if_pos c97] at H
                                                              have c97b0 : decide ((rd (rd_L2 t390 (rd t371 x23_3)) 1) < (wrap64 ((rd (rd_L2 t390 (rd t371 (ji87))) 1) + ((rd_T62 t370 (rd t371 (ji87))).f1)))) = true := decide_eq_true c97
                                                              clear c97
                                                              exact absurd ((Option.some.inj H).trans hT.out) (by decide)
                                                            · rw [if_neg c97] at H
                                                              have c97b0 : decide ((rd (rd_L2 t390 (rd t371 x23_3)) 1) < (wrap64 ((rd (rd_L2 t390 (rd t371 (ji87))) 1) + ((rd_T62 t370 (rd t371 (ji87))).f1)))) = false := decide_eq_false c97
                                                              clear c97
                                                              have H' := Aside0.mk H
                                                              clear H
                                                              obtain ⟨Ao98, co98, eo98⟩ := Kd.S_slice HO_11.out
                                                              subst eo98
                                                              have p418 : 0 ≤ ((rd t371 x23_3) : Int) := of_decide_eq_true (by first | (with_reducible assumption) | assumption)
                                                              have q418 : (rd t371 x23_3) < (t390.length : Int) := of_decide_eq_true (by first | (with_reducible assumption) | assumption)
                                                              obtain ⟨ad418, A418_0, c418_0, e418, hx418_0, hl418_0, hi418_0⟩ := at_L2 (Kd.S_reads' HO_11.out).2.2 (rd t371 x23_3) p418 q418
                                                              cases e418
                                                              obtain ⟨ce418, hce418, hMe418, hcc418⟩ := Kd.S_get HO_11.out [] (rd t371 x23_3) p418 (by first | exact q418 | exact of_decide_eq_true (by first | (with_reducible assumption) | assumption) | (have e_ := (Kd.S_reads' HO_11.out).1; omega))
                                                              obtain ⟨ve418_0, rfl, ge418_0⟩ := hMe418
                                                              have hv418_0 := hcc418 0 _ rfl
                                                              rw [Nat.add_zero, show ((Kd.slice 2 (Kd.int .i64))).sz = 1 from rfl, Nat.mul_one] at hv418_0
                                                              replace hv418_0 := Option.some.inj (hv418_0.symm.trans hx418_0)
                                                              rw [hv418_0] at ge418_0
                                                              have HL418_0 := Aside0.mk (show Kd.R (Kd.int .i64) 2 _ _ _ _ (rd_L2 t390 (rd t371 x23_3)) from ge418_0)
                                                              clear hv418_0 ge418_0
                                                              clear hcc418 hce418
                                                              have HR418_0 := Aside0.mk hi418_0
                                                              have HC418_0 := Aside0.mk hl418_0
                                                              clear hi418_0 hl418_0
                                                              replace p418 := eq_true p418
                                                              replace q418 := eq_true q418
                                                              have p419 : 0 ≤ (0 : Int) := (by omega)
                                                              have q419 : 0 < ((rd_L2 t390 (rd t371 x23_3)).length : Int) := of_decide_eq_true (by first | (with_reducible assumption) | assumption)
                                                              obtain ⟨ad419, e419, hx419_0⟩ := Kd.at_int (by repeat (first | (with_reducible exact HR418_0.out) | (with_reducible refine Kd.C_alloc ?_ _) | (with_reducible refine Kd.C_drewN ?_ _) | (with_reducible refine Kd.C_drew ?_) | exact HR418_0.out)) 0 p419 q419
                                                              cases e419
                                                              have qi419 : (0 < (rd_L2 t390 (rd t371 x23_3)).length) = True := eq_true (by omega)
                                                              (try rw [show ((0 : Int)).toNat = 0 from rfl] at hx419_0)
                                                              (try rw [Addr.add_zero'] at hx419_0)
                                                              replace p419 := eq_true p419
                                                              replace q419 := eq_true q419
                                                              have p420 : 0 ≤ ((ji87) : Int) := of_decide_eq_true (by first | (with_reducible assumption) | assumption)
                                                              have q420 : (ji87) < (t371.length : Int) := of_decide_eq_true (by first | (with_reducible assumption) | assumption)
                                                              obtain ⟨ad420, e420, hx420_0⟩ := Kd.at_int (Kd.R_reads' HO_4.out).2.2 (ji87) p420 q420
                                                              obtain rfl : ad409 = ad420 := (by injection e420)
                                                              replace p420 := eq_true p420
                                                              replace q420 := eq_true q420
                                                              have p421 : 0 ≤ ((rd t371 (ji87)) : Int) := of_decide_eq_true (by first | (with_reducible assumption) | assumption)
                                                              have q421 : (rd t371 (ji87)) < (t390.length : Int) := of_decide_eq_true (by first | (with_reducible assumption) | assumption)
                                                              obtain ⟨ad421, A421_0, c421_0, e421, hx421_0, hl421_0, hi421_0⟩ := at_L2 (Kd.S_reads' HO_11.out).2.2 (rd t371 (ji87)) p421 q421
                                                              obtain rfl : ad418 = ad421 := (by injection e421)
                                                              obtain ⟨ce421, hce421, hMe421, hcc421⟩ := Kd.S_get HO_11.out [] (rd t371 (ji87)) p421 (by first | exact q421 | exact of_decide_eq_true (by first | (with_reducible assumption) | assumption) | (have e_ := (Kd.S_reads' HO_11.out).1; omega))
                                                              obtain ⟨ve421_0, rfl, ge421_0⟩ := hMe421
                                                              have hv421_0 := hcc421 0 _ rfl
                                                              rw [Nat.add_zero, show ((Kd.slice 2 (Kd.int .i64))).sz = 1 from rfl, Nat.mul_one] at hv421_0
                                                              replace hv421_0 := Option.some.inj (hv421_0.symm.trans hx421_0)
                                                              rw [hv421_0] at ge421_0
                                                              have HL421_0 := Aside0.mk (show Kd.R (Kd.int .i64) 2 _ _ _ _ (rd_L2 t390 (rd t371 (ji87))) from ge421_0)
                                                              clear hv421_0 ge421_0
                                                              clear hcc421 hce421
                                                              have HR421_0 := Aside0.mk hi421_0
                                                              have HC421_0 := Aside0.mk hl421_0
                                                              clear hi421_0 hl421_0
                                                              replace p421 := eq_true p421
                                                              replace q421 := eq_true q421
                                                              have p422 : 0 ≤ (0 : Int) := (by omega)
                                                              have q422 : 0 < ((rd_L2 t390 (rd t371 (ji87))).length : Int) := of_decide_eq_true (by first | (with_reducible assumption) | assumption)
                                                              obtain ⟨ad422, e422, hx422_0⟩ := Kd.at_int (by repeat (first | (with_reducible exact HR421_0.out) | (with_reducible refine Kd.C_alloc ?_ _) | (with_reducible refine Kd.C_drewN ?_ _) | (with_reducible refine Kd.C_drew ?_) | exact HR421_0.out)) 0 p422 q422
                                                              cases e422
                                                              have qi422 : (0 < (rd_L2 t390 (rd t371 (ji87))).length) = True := eq_true (by omega)
                                                              (try rw [show ((0 : Int)).toNat = 0 from rfl] at hx422_0)
                                                              (try rw [Addr.add_zero'] at hx422_0)
                                                              replace p422 := eq_true p422
                                                              replace q422 := eq_true q422
                                                              have p423 : 0 ≤ ((ji87) : Int) := of_decide_eq_true (by first | (with_reducible assumption) | assumption)
                                                              have q423 : (ji87) < (t371.length : Int) := of_decide_eq_true (by first | (with_reducible assumption) | assumption)
                                                              obtain ⟨ad423, e423, hx423_0⟩ := Kd.at_int (Kd.R_reads' HO_4.out).2.2 (ji87) p423 q423
                                                              obtain rfl : ad409 = ad423 := (by injection e423)
                                                              replace p423 := eq_true p423
                                                              replace q423 := eq_true q423
                                                              have p424 : 0 ≤ ((rd t371 (ji87)) : Int) := of_decide_eq_true (by first | (with_reducible assumption) | assumption)
                                                              have q424 : (rd t371 (ji87)) < (t370.length : Int) := of_decide_eq_true (by first | (with_reducible assumption) | assumption)
                                                              obtain ⟨ad424, e424, hx424_0, hx424_1⟩ := at_T62 (Kd.R_reads' HO_3.out).2.2 (rd t371 (ji87)) p424 q424
                                                              cases e424
                                                              replace p424 := eq_true p424
                                                              replace q424 := eq_true q424
                                                              have p425 : 0 ≤ ((rd t371 x23_3) : Int) := of_decide_eq_true (by first | (with_reducible assumption) | assumption)
                                                              have q425 : (rd t371 x23_3) < (t390.length : Int) := of_decide_eq_true (by first | (with_reducible assumption) | assumption)
                                                              obtain ⟨ad425, A425_0, c425_0, e425, hx425_0, hl425_0, hi425_0⟩ := at_L2 (Kd.S_reads' HO_11.out).2.2 (rd t371 x23_3) p425 q425
                                                              obtain rfl : ad418 = ad425 := (by injection e425)
                                                              obtain ⟨ce425, hce425, hMe425, hcc425⟩ := Kd.S_get HO_11.out [] (rd t371 x23_3) p425 (by first | exact q425 | exact of_decide_eq_true (by first | (with_reducible assumption) | assumption) | (have e_ := (Kd.S_reads' HO_11.out).1; omega))
                                                              obtain ⟨ve425_0, rfl, ge425_0⟩ := hMe425
                                                              have hv425_0 := hcc425 0 _ rfl
                                                              rw [Nat.add_zero, show ((Kd.slice 2 (Kd.int .i64))).sz = 1 from rfl, Nat.mul_one] at hv425_0
                                                              replace hv425_0 := Option.some.inj (hv425_0.symm.trans hx425_0)
                                                              rw [hv425_0] at ge425_0
                                                              have HL425_0 := Aside0.mk (show Kd.R (Kd.int .i64) 2 _ _ _ _ (rd_L2 t390 (rd t371 x23_3)) from ge425_0)
                                                              clear hv425_0 ge425_0
                                                              clear hcc425 hce425
                                                              have HR425_0 := Aside0.mk hi425_0
                                                              have HC425_0 := Aside0.mk hl425_0
                                                              clear hi425_0 hl425_0
                                                              replace p425 := eq_true p425
                                                              replace q425 := eq_true q425
                                                              have ea_ := Option.some.inj (hx418_0.symm.trans hx425_0)
                                                              injection ea_ with ea_ en_ ec_
                                                              subst ea_
                                                              subst ec_
                                                              clear en_
                                                              have p426 : 0 ≤ (1 : Int) := (by omega)
                                                              have q426 : 1 < ((rd_L2 t390 (rd t371 x23_3)).length : Int) := of_decide_eq_true (by first | (with_reducible assumption) | assumption)
                                                              obtain ⟨ad426, e426, hx426_0⟩ := Kd.at_int (by repeat (first | (with_reducible exact HR425_0.out) | (with_reducible refine Kd.C_alloc ?_ _) | (with_reducible refine Kd.C_drewN ?_ _) | (with_reducible refine Kd.C_drew ?_) | exact HR425_0.out)) 1 p426 q426
                                                              cases e426
                                                              (try simp only [show (1 : Int).toNat = 1 from rfl, Nat.reduceMul, Nat.reduceEqDiff, Go.Addr.add, ↓reduceIte] at hx426_0)
                                                              have qi426 : (1 < (rd_L2 t390 (rd t371 x23_3)).length) = True := eq_true (by omega)
                                                              (try rw [show ((1 : Int)).toNat = 1 from rfl] at hx426_0)
                                                              replace p426 := eq_true p426
                                                              replace q426 := eq_true q426
                                                              have p427 : 0 ≤ ((ji87) : Int) := of_decide_eq_true (by first | (with_reducible assumption) | assumption)
                                                              have q427 : (ji87) < (t371.length : Int) := of_decide_eq_true (by first | (with_reducible assumption) | assumption)
                                                              obtain ⟨ad427, e427, hx427_0⟩ := Kd.at_int (Kd.R_reads' HO_4.out).2.2 (ji87) p427 q427
                                                              obtain rfl : ad409 = ad427 := (by injection e427)
                                                              replace p427 := eq_true p427
                                                              replace q427 := eq_true q427
                                                              have p428 : 0 ≤ ((rd t371 (ji87)) : Int) := of_decide_eq_true (by first | (with_reducible assumption) | assumption)
                                                              have q428 : (rd t371 (ji87)) < (t390.length : Int) := of_decide_eq_true (by first | (with_reducible assumption) | assumption)
                                                              obtain ⟨ad428, A428_0, c428_0, e428, hx428_0, hl428_0, hi428_0⟩ := at_L2 (Kd.S_reads' HO_11.out).2.2 (rd t371 (ji87)) p428 q428
                                                              obtain rfl : ad418 = ad428 := (by injection e428)
                                                              obtain ⟨ce428, hce428, hMe428, hcc428⟩ := Kd.S_get HO_11.out [] (rd t371 (ji87)) p428 (by first | exact q428 | exact of_decide_eq_true (by first | (with_reducible assumption) | assumption) | (have e_ := (Kd.S_reads' HO_11.out).1; omega))
                                                              obtain ⟨ve428_0, rfl, ge428_0⟩ := hMe428
                                                              have hv428_0 := hcc428 0 _ rfl
                                                              rw [Nat.add_zero, show ((Kd.slice 2 (Kd.int .i64))).sz = 1 from rfl, Nat.mul_one] at hv428_0
                                                              replace hv428_0 := Option.some.inj (hv428_0.symm.trans hx428_0)
                                                              rw [hv428_0] at ge428_0
                                                              have HL428_0 := Aside0.mk (show Kd.R (Kd.int .i64) 2 _ _ _ _ (rd_L2 t390 (rd t371 (ji87))) from ge428_0)
                                                              clear hv428_0 ge428_0
                                                              clear hcc428 hce428
                                                              have HR428_0 := Aside0.mk hi428_0
                                                              have HC428_0 := Aside0.mk hl428_0
                                                              clear hi428_0 hl428_0
                                                              replace p428 := eq_true p428
                                                              replace q428 := eq_true q428
                                                              have ea_ := Option.some.inj (hx421_0.symm.trans hx428_0)
                                                              injection ea_ with ea_ en_ ec_
                                                              subst ea_
                                                              subst ec_
                                                              clear en_
                                                              have p429 : 0 ≤ (1 : Int) := (by omega)
                                                              have q429 : 1 < ((rd_L2 t390 (rd t371 (ji87))).length : Int) := of_decide_eq_true (by first | (with_reducible assumption) | assumption)
                                                              obtain ⟨ad429, e429, hx429_0⟩ := Kd.at_int (by repeat (first | (with_reducible exact HR428_0.out) | (with_reducible refine Kd.C_alloc ?_ _) | (with_reducible refine Kd.C_drewN ?_ _) | (with_reducible refine Kd.C_drew ?_) | exact HR428_0.out)) 1 p429 q429
                                                              cases e429
                                                              (try simp only [show (1 : Int).toNat = 1 from rfl, Nat.reduceMul, Nat.reduceEqDiff, Go.Addr.add, ↓reduceIte] at hx429_0)
                                                              have qi429 : (1 < (rd_L2 t390 (rd t371 (ji87))).length) = True := eq_true (by omega)
                                                              (try rw [show ((1 : Int)).toNat = 1 from rfl] at hx429_0)
                                                              replace p429 := eq_true p429
                                                              replace q429 := eq_true q429
                                                              have p430 : 0 ≤ ((ji87) : Int) := of_decide_eq_true (by first | (with_reducible assumption) | assumption)
                                                              have q430 : (ji87) < (t371.length : Int) := of_decide_eq_true (by first | (with_reducible assumption) | assumption)
                                                              obtain ⟨ad430, e430, hx430_0⟩ := Kd.at_int (Kd.R_reads' HO_4.out).2.2 (ji87) p430 q430
                                                              obtain rfl : ad409 = ad430 := (by injection e430)
                                                              replace p430 := eq_true p430
                                                              replace q430 := eq_true q430
                                                              have p431 : 0 ≤ ((rd t371 (ji87)) : Int) := of_decide_eq_true (by first | (with_reducible assumption) | assumption)
                                                              have q431 : (rd t371 (ji87)) < (t370.length : Int) := of_decide_eq_true (by first | (with_reducible assumption) | assumption)
                                                              obtain ⟨ad431, e431, hx431_0, hx431_1⟩ := at_T62 (Kd.R_reads' HO_3.out).2.2 (rd t371 (ji87)) p431 q431
                                                              obtain rfl : ad424 = ad431 := (by injection e431)
                                                              replace p431 := eq_true p431
                                                              replace q431 := eq_true q431
                                                              go_wp2
                                                              repeat (go_quiet (fail); try go_wp2)
                                                              go_roundg kj72
                                                              case measure => have := HJ10.out; have := HJ61.out; have := HK3.out; have := HJ72.out; omega
                                                              case rel => exact ⟨(wrap64 (x23_3 + 1)), (by first | rfl | (simp; done) | (simp [*]; done)), H', ⟨by have := HJ10.out; have := HJ61.out; have := HK3.out; have := HJ72.out; omega⟩, ⟨by (with_reducible repeat (first | apply Kd.R_alloc | apply Kd.R_drewN | apply Kd.R_drew)); exact HO_3.out⟩, ⟨by (with_reducible repeat (first | apply Kd.R_alloc | apply Kd.R_drewN | apply Kd.R_drew)); exact HO_4.out⟩, ⟨by (with_reducible repeat (first | apply Kd.S_alloc | apply Kd.S_drewN | apply Kd.S_drew)); exact HO_11.out⟩, ⟨by repeat (first | (with_reducible first | exact HB.out | apply below_alloc | apply pw_below_drewN | apply below_drew1) | exact HB.out)⟩⟩
                                                          · rw [if_neg c96] at H
                                                            exact absurd H (by simp)
                                                        · rw [if_neg c95] at H
                                                          exact absurd H (by simp)
                                                    · rw [if_neg c93] at H
                                                      exact absurd H (by simp)
                                                  · rw [if_neg c92] at H
                                                    exact absurd H (by simp)
                                                · rw [if_neg c91] at H
                                                  exact absurd H (by simp)
                                              · rw [if_neg c90] at H
                                                exact absurd H (by simp)
                                            · rw [if_neg c89] at H
                                              exact absurd H (by simp)
                                          · rw [if_neg c88] at H
                                            exact absurd H (by simp)
                                        · rw [if_neg c86] at H
                                          exact absurd H (by simp)
                                      · rw [if_neg c85] at H
                                        exact absurd H (by simp)
                                    · rw [if_neg c84] at H
                                      exact absurd H (by simp)
                                  · rw [if_neg c83] at H
                                    have c83b0 : decide (0 < x23_3) = false := decide_eq_false c83
                                    clear c83
                                    have H' := Aside0.mk H
                                    clear H
                                    go_wp2
                                    repeat (go_quiet (fail); try go_wp2)
                                    go_roundg kj72
                                    case measure => have := HJ10.out; have := HJ61.out; have := HK3.out; have := HJ72.out; omega
                                    case rel => exact ⟨(wrap64 (x23_3 + 1)), (by first | rfl | (simp; done) | (simp [*]; done)), H', ⟨by have := HJ10.out; have := HJ61.out; have := HK3.out; have := HJ72.out; omega⟩, ⟨by (with_reducible repeat (first | apply Kd.R_alloc | apply Kd.R_drewN | apply Kd.R_drew)); exact HO_3.out⟩, ⟨by (with_reducible repeat (first | apply Kd.R_alloc | apply Kd.R_drewN | apply Kd.R_drew)); exact HO_4.out⟩, ⟨by (with_reducible repeat (first | apply Kd.S_alloc | apply Kd.S_drewN | apply Kd.S_drew)); exact HO_11.out⟩, ⟨by repeat (first | (with_reducible first | exact HB.out | apply below_alloc | apply pw_below_drewN | apply below_drew1) | exact HB.out)⟩⟩
                          · rw [if_neg c72] at H
                            exact absurd H (by simp)
                        · rw [if_neg c71] at H
                          have c71b0 : decide (x23_3 < (t371.length : Int)) = false := decide_eq_false c71
                          clear c71
                          obtain rfl := Option.some.inj H
                          go_wp2
                          repeat (go_quiet (fail); try go_wp2)
                          go_ret
                          exact ⟨by first | rfl | (simp [errW_none, errW_some] <;> rfl) | (simp [*, errW_none, errW_some] <;> rfl), by repeat (first | (with_reducible first | exact HB.out | apply below_alloc | apply pw_below_drewN | apply below_drew1) | exact HB.out)⟩
          · rw [if_neg c59] at H
            have c59b0 : (t378 == 0) = false := beq_eq_false_iff_ne.mpr c59
            have c59b1 : (t378 != 0) = true := bne_iff_ne.mpr c59
            obtain rfl := Option.some.inj H
            as_aux_lemma =>
              go_wp2
              repeat (go_quiet (fail); try go_wp2)
              go_ret
              exact ⟨by first | rfl | (simp [errW_none, errW_some] <;> rfl) | (simp [*, errW_none, errW_some] <;> rfl), by repeat (first | (with_reducible first | exact HB.out | apply below_alloc | apply pw_below_drewN | apply below_drew1) | exact HB.out)⟩

/-- The one pure statement of laws_FnTurnedFlow. -/
def laws_FnTurnedFlow.Pure : Prop := ∀ (l0 : List Int), l0.length * 1 ≤ 140737488351232 → (∀ x ∈ l0, (Lit.int .u8 x).wf = true) → ∃ k, laws_FnTurnedFlow.f k l0 = some true
theorem laws_FnTurnedFlow.walk (P : laws_FnTurnedFlow.Pure) (A0 : Option Addr) (c0 : Nat) (l0 : List Int) (w : World) (w0_0 : l0.length * 1 ≤ 140737488351232) (w0_1 : (∀ x ∈ l0, (Lit.int .u8 x).wf = true)) (hr0 : Kd.C (Kd.int .u8) w A0 l0.length l0) (hc0 : l0.length ≤ c0) :
    Calls Try.prog 6 #[.slice A0 l0.length c0] w fun e w' => e = .returned (.bool true) ∧ Below w.heap.size w w' := by
  obtain ⟨k, h⟩ := P l0 w0_0 w0_1
  refine (laws_FnTurnedFlow.calls k A0 c0 l0 true w ⟨rfl⟩ hr0 hc0 h).mono ?_
  rintro e w' ⟨rfl, hd⟩
  exact ⟨rfl, hd⟩

end Go.Proofs.Ytefnoiajfjbbpaa.PFnTurnedFlow
