-- Printed by the session (wip/myprint.py).
import Derived.Test.YthfgdcnngklfoaaPFnBreakEvenx0
import Derived.Test.YthfgdcnngklfoaaPFnBreakEvenx1
import Derived.Test.YthfgdcnngklfoaaPFnBreakEvenx2
import Derived.Test.YthfgdcnngklfoaaPFnBreakEvenx3
namespace Go.Proofs.Ythfgdcnngklfoaa.PFnBreakEven
open Go.RowKit Go.Proofs.YthfgdcnngklfoaaW.PrintWords Go.Proofs.YthfgdcnngklfoaaW.PrintLast Go.Proofs.YthfgdcnngklfoaaW.PrintMore
attribute [local go_sem] max2_int min2_int max_two min_two max_three min_three max_four min_four   -- for this text's walks alone
set_option linter.unusedVariables false
set_option linter.unusedSimpArgs false

/-! ### laws_FnBreakEven: function 6 -/
mutual
def laws_FnBreakEven.j0 : Nat → Int → Int → Int → Int → Int → Int → Int → Int → Int → Int → Int → Int → Int → Int → Int → Bool → Option (Bool)
  | 0, _, _, _, _, _, _, _, _, _, _, _, _, _, _, _, _ => none
  | k + 1, x3, x4, x5, x6, x7, x10, x11, x12, x13, x14, x15, x18, x19, x20, x21, x113 => if x113 = true then (some false) else (if x21 = 0 then (if (wrap64 (x20 * x19)) < x18 then (laws_FnBreakEven.j1 k x3 x4 x5 x6 x7 x10 x11 x12 x13 x14 x15 true) else (if x20 > 0 then (laws_FnBreakEven.j1 k x3 x4 x5 x6 x7 x10 x11 x12 x13 x14 x15 (decide ((wrap64 ((wrap64 (x20 - 1)) * x19)) ≥ x18))) else (laws_FnBreakEven.j1 k x3 x4 x5 x6 x7 x10 x11 x12 x13 x14 x15 false))) else (laws_FnBreakEven.j1 k x3 x4 x5 x6 x7 x10 x11 x12 x13 x14 x15 false))
def laws_FnBreakEven.j1 : Nat → Int → Int → Int → Int → Int → Int → Int → Int → Int → Int → Int → Bool → Option (Bool)
  | 0, _, _, _, _, _, _, _, _, _, _, _, _ => none
  | k + 1, x3, x4, x5, x6, x7, x10, x11, x12, x13, x14, x15, x134 => if x134 = true then (some false) else (if x15 = 0 then (if (wrap64 (x12 + (wrap64 (x14 * x13)))) ≥ (wrap64 (x10 + (wrap64 (x14 * x11)))) then (some false) else (if x14 > 0 then (if (wrap64 (x12 + (wrap64 ((wrap64 (x14 - 1)) * x13)))) < (wrap64 (x10 + (wrap64 ((wrap64 (x14 - 1)) * x11)))) then (some false) else (if x7 = 0 then (if (wrap64 (x6 * x5)) ≥ (wrap64 (x3 + (wrap64 (x6 * x4)))) then (if x6 = 1 then (some true) else (some (decide ((wrap64 ((wrap64 (x6 - 1)) * x5)) < (wrap64 (x3 + (wrap64 ((wrap64 (x6 - 1)) * x4)))))))) else (some false)) else (some true))) else (if x7 = 0 then (if (wrap64 (x6 * x5)) ≥ (wrap64 (x3 + (wrap64 (x6 * x4)))) then (if x6 = 1 then (some true) else (some (decide ((wrap64 ((wrap64 (x6 - 1)) * x5)) < (wrap64 (x3 + (wrap64 ((wrap64 (x6 - 1)) * x4)))))))) else (some false)) else (some true)))) else (if x7 = 0 then (if (wrap64 (x6 * x5)) ≥ (wrap64 (x3 + (wrap64 (x6 * x4)))) then (if x6 = 1 then (some true) else (some (decide ((wrap64 ((wrap64 (x6 - 1)) * x5)) < (wrap64 (x3 + (wrap64 ((wrap64 (x6 - 1)) * x4)))))))) else (some false)) else (some true)))
end
def laws_FnBreakEven.f (k : Nat) (l0 : List Int) : Option (Bool) := (laws_big.f l0).bind fun t219 => (if t219 = true then (some true) else ((spec_DrawBreakEven.f k l0).bind fun bt220 => ((impl_BreakEven.f k bt220.1 bt220.2.1 bt220.2.2).bind fun bt223 => ((spec_BreakEven.f k bt220.1 bt220.2.1 bt220.2.2).bind fun bt225 => ((spec_DrawCheaperOf.f k l0).bind fun bt227 => ((impl_CheaperOf.f k bt227.1 bt227.2.1 bt227.2.2.1 bt227.2.2.2).bind fun bt231 => ((spec_CheaperOf.f k bt227.1 bt227.2.1 bt227.2.2.1 bt227.2.2.2).bind fun bt233 => ((spec_DrawUnitPrice.f k l0).bind fun bt235 => ((impl_UnitPrice.f bt235.1 bt235.2).bind fun bt237 => ((spec_UnitPrice.f bt235.1 bt235.2).bind fun bt239 => (if bt223.2 = bt225.2 then (if bt223.1 = bt225.1 then (if bt231.2 = bt233.2 then (if bt231.1 = bt233.1 then (if bt237.2 = bt239.2 then (laws_FnBreakEven.j0 k bt220.1 bt220.2.1 bt220.2.2 bt223.1 bt223.2 bt227.1 bt227.2.1 bt227.2.2.1 bt227.2.2.2 bt231.1 bt231.2 bt235.1 bt235.2 bt237.1 bt237.2 (bt237.1 != bt239.1)) else (laws_FnBreakEven.j0 k bt220.1 bt220.2.1 bt220.2.2 bt223.1 bt223.2 bt227.1 bt227.2.1 bt227.2.2.1 bt227.2.2.2 bt231.1 bt231.2 bt235.1 bt235.2 bt237.1 bt237.2 true)) else (laws_FnBreakEven.j0 k bt220.1 bt220.2.1 bt220.2.2 bt223.1 bt223.2 bt227.1 bt227.2.1 bt227.2.2.1 bt227.2.2.2 bt231.1 bt231.2 bt235.1 bt235.2 bt237.1 bt237.2 true)) else (laws_FnBreakEven.j0 k bt220.1 bt220.2.1 bt220.2.2 bt223.1 bt223.2 bt227.1 bt227.2.1 bt227.2.2.1 bt227.2.2.2 bt231.1 bt231.2 bt235.1 bt235.2 bt237.1 bt237.2 true)) else (laws_FnBreakEven.j0 k bt220.1 bt220.2.1 bt220.2.2 bt223.1 bt223.2 bt227.1 bt227.2.1 bt227.2.2.1 bt227.2.2.2 bt231.1 bt231.2 bt235.1 bt235.2 bt237.1 bt237.2 true)) else (laws_FnBreakEven.j0 k bt220.1 bt220.2.1 bt220.2.2 bt223.1 bt223.2 bt227.1 bt227.2.1 bt227.2.2.1 bt227.2.2.2 bt231.1 bt231.2 bt235.1 bt235.2 bt237.1 bt237.2 true))))))))))))
theorem laws_FnBreakEven.mono_l : ∀ k, (∀ y0 y1 y2 y3 y4 y5 y6 y7 y8 y9 y10 y11 y12 y13 y14 y15, LeO (laws_FnBreakEven.j0 k y0 y1 y2 y3 y4 y5 y6 y7 y8 y9 y10 y11 y12 y13 y14 y15) (laws_FnBreakEven.j0 (k + 1) y0 y1 y2 y3 y4 y5 y6 y7 y8 y9 y10 y11 y12 y13 y14 y15)) ∧ (∀ y0 y1 y2 y3 y4 y5 y6 y7 y8 y9 y10 y11, LeO (laws_FnBreakEven.j1 k y0 y1 y2 y3 y4 y5 y6 y7 y8 y9 y10 y11) (laws_FnBreakEven.j1 (k + 1) y0 y1 y2 y3 y4 y5 y6 y7 y8 y9 y10 y11))
  | 0 => ⟨fun _ _ _ _ _ _ _ _ _ _ _ _ _ _ _ _ r h => by simp [laws_FnBreakEven.j0] at h, fun _ _ _ _ _ _ _ _ _ _ _ _ r h => by simp [laws_FnBreakEven.j1] at h⟩
  | k + 1 => by
    obtain ⟨ih0, ih1⟩ := laws_FnBreakEven.mono_l k
    refine ⟨?_, ?_⟩
    · intro y0 y1 y2 y3 y4 y5 y6 y7 y8 y9 y10 y11 y12 y13 y14 y15
      unfold laws_FnBreakEven.j0
      repeat' first
      | (with_reducible exact ih0 _ _ _ _ _ _ _ _ _ _ _ _ _ _ _ _)
      | (with_reducible exact ih1 _ _ _ _ _ _ _ _ _ _ _ _)
      | (with_reducible exact impl_BreakEven.mono _ _ _ _)
      | (with_reducible exact impl_CheaperOf.mono _ _ _ _ _)
      | (with_reducible exact spec_BreakEven.mono _ _ _ _)
      | (with_reducible exact spec_CheaperOf.mono _ _ _ _ _)
      | (with_reducible exact spec_DrawBreakEven.mono _ _)
      | (with_reducible exact spec_DrawCheaperOf.mono _ _)
      | (with_reducible exact spec_DrawUnitPrice.mono _ _)
      | (with_reducible exact LeO.refl _)
      | (with_reducible exact LeO.none _)
      | (with_reducible refine LeO.ite ?_ ?_)
      | (with_reducible refine LeO.bind ?_ (fun _ => ?_))
      | exact ih0 _ _ _ _ _ _ _ _ _ _ _ _ _ _ _ _
      | exact ih1 _ _ _ _ _ _ _ _ _ _ _ _
      | exact impl_BreakEven.mono _ _ _ _
      | exact impl_CheaperOf.mono _ _ _ _ _
      | exact spec_BreakEven.mono _ _ _ _
      | exact spec_CheaperOf.mono _ _ _ _ _
      | exact spec_DrawBreakEven.mono _ _
      | exact spec_DrawCheaperOf.mono _ _
      | exact spec_DrawUnitPrice.mono _ _
      | exact LeO.none _
      | refine LeO.ite ?_ ?_
      | refine LeO.bind ?_ (fun _ => ?_)
    · intro y0 y1 y2 y3 y4 y5 y6 y7 y8 y9 y10 y11
      unfold laws_FnBreakEven.j1
      repeat' first
      | (with_reducible exact ih0 _ _ _ _ _ _ _ _ _ _ _ _ _ _ _ _)
      | (with_reducible exact ih1 _ _ _ _ _ _ _ _ _ _ _ _)
      | (with_reducible exact impl_BreakEven.mono _ _ _ _)
      | (with_reducible exact impl_CheaperOf.mono _ _ _ _ _)
      | (with_reducible exact spec_BreakEven.mono _ _ _ _)
      | (with_reducible exact spec_CheaperOf.mono _ _ _ _ _)
      | (with_reducible exact spec_DrawBreakEven.mono _ _)
      | (with_reducible exact spec_DrawCheaperOf.mono _ _)
      | (with_reducible exact spec_DrawUnitPrice.mono _ _)
      | (with_reducible exact LeO.refl _)
      | (with_reducible exact LeO.none _)
      | (with_reducible refine LeO.ite ?_ ?_)
      | (with_reducible refine LeO.bind ?_ (fun _ => ?_))
      | exact ih0 _ _ _ _ _ _ _ _ _ _ _ _ _ _ _ _
      | exact ih1 _ _ _ _ _ _ _ _ _ _ _ _
      | exact impl_BreakEven.mono _ _ _ _
      | exact impl_CheaperOf.mono _ _ _ _ _
      | exact spec_BreakEven.mono _ _ _ _
      | exact spec_CheaperOf.mono _ _ _ _ _
      | exact spec_DrawBreakEven.mono _ _
      | exact spec_DrawCheaperOf.mono _ _
      | exact spec_DrawUnitPrice.mono _ _
      | exact LeO.none _
      | refine LeO.ite ?_ ?_
      | refine LeO.bind ?_ (fun _ => ?_)
theorem laws_FnBreakEven.mono : ∀ a0 k, LeO (laws_FnBreakEven.f k a0) (laws_FnBreakEven.f (k + 1) a0) := by
  intro a0 k
  obtain ⟨ih0, ih1⟩ := laws_FnBreakEven.mono_l k
  unfold laws_FnBreakEven.f
  repeat' first
      | (with_reducible exact ih0 _ _ _ _ _ _ _ _ _ _ _ _ _ _ _ _)
      | (with_reducible exact ih1 _ _ _ _ _ _ _ _ _ _ _ _)
      | (with_reducible exact impl_BreakEven.mono _ _ _ _)
      | (with_reducible exact impl_CheaperOf.mono _ _ _ _ _)
      | (with_reducible exact spec_BreakEven.mono _ _ _ _)
      | (with_reducible exact spec_CheaperOf.mono _ _ _ _ _)
      | (with_reducible exact spec_DrawBreakEven.mono _ _)
      | (with_reducible exact spec_DrawCheaperOf.mono _ _)
      | (with_reducible exact spec_DrawUnitPrice.mono _ _)
      | (with_reducible exact LeO.refl _)
      | (with_reducible exact LeO.none _)
      | (with_reducible refine LeO.ite ?_ ?_)
      | (with_reducible refine LeO.bind ?_ (fun _ => ?_))
      | exact ih0 _ _ _ _ _ _ _ _ _ _ _ _ _ _ _ _
      | exact ih1 _ _ _ _ _ _ _ _ _ _ _ _
      | exact impl_BreakEven.mono _ _ _ _
      | exact impl_CheaperOf.mono _ _ _ _ _
      | exact spec_BreakEven.mono _ _ _ _
      | exact spec_CheaperOf.mono _ _ _ _ _
      | exact spec_DrawBreakEven.mono _ _
      | exact spec_DrawCheaperOf.mono _ _
      | exact spec_DrawUnitPrice.mono _ _
      | exact LeO.none _
      | refine LeO.ite ?_ ?_
      | refine LeO.bind ?_ (fun _ => ?_)
set_option maxHeartbeats 8000000 in
set_option maxRecDepth 100000 in
theorem laws_FnBreakEven.calls (k : Nat) (A0 : Option Addr) (c0 : Nat) (l0 : List Int) (r : Bool) (w : World) (hT : Aside0 (r = true)) (hr0 : Kd.C (Kd.int .u8) w A0 l0.length l0) (hc0 : l0.length ≤ c0) (h : laws_FnBreakEven.f k l0 = some r) :
    Calls Try.prog 6 #[.slice A0 l0.length c0] w fun e w' => e = .returned (.bool r) ∧ Below w.heap.size w w' := by
  have HR0 := Aside0.mk hr0
  have HC0 := Aside0.mk hc0
  clear hr0 hc0
  have HB := Aside0.mk (Below.refl w.heap.size w)
  have H : ((laws_big.f l0).bind fun t219 => (if t219 = true then (some true) else ((spec_DrawBreakEven.f k l0).bind fun bt220 => ((impl_BreakEven.f k bt220.1 bt220.2.1 bt220.2.2).bind fun bt223 => ((spec_BreakEven.f k bt220.1 bt220.2.1 bt220.2.2).bind fun bt225 => ((spec_DrawCheaperOf.f k l0).bind fun bt227 => ((impl_CheaperOf.f k bt227.1 bt227.2.1 bt227.2.2.1 bt227.2.2.2).bind fun bt231 => ((spec_CheaperOf.f k bt227.1 bt227.2.1 bt227.2.2.1 bt227.2.2.2).bind fun bt233 => ((spec_DrawUnitPrice.f k l0).bind fun bt235 => ((impl_UnitPrice.f bt235.1 bt235.2).bind fun bt237 => ((spec_UnitPrice.f bt235.1 bt235.2).bind fun bt239 => (if bt223.2 = bt225.2 then (if bt223.1 = bt225.1 then (if bt231.2 = bt233.2 then (if bt231.1 = bt233.1 then (if bt237.2 = bt239.2 then (laws_FnBreakEven.j0 k bt220.1 bt220.2.1 bt220.2.2 bt223.1 bt223.2 bt227.1 bt227.2.1 bt227.2.2.1 bt227.2.2.2 bt231.1 bt231.2 bt235.1 bt235.2 bt237.1 bt237.2 (bt237.1 != bt239.1)) else (laws_FnBreakEven.j0 k bt220.1 bt220.2.1 bt220.2.2 bt223.1 bt223.2 bt227.1 bt227.2.1 bt227.2.2.1 bt227.2.2.2 bt231.1 bt231.2 bt235.1 bt235.2 bt237.1 bt237.2 true)) else (laws_FnBreakEven.j0 k bt220.1 bt220.2.1 bt220.2.2 bt223.1 bt223.2 bt227.1 bt227.2.1 bt227.2.2.1 bt227.2.2.2 bt231.1 bt231.2 bt235.1 bt235.2 bt237.1 bt237.2 true)) else (laws_FnBreakEven.j0 k bt220.1 bt220.2.1 bt220.2.2 bt223.1 bt223.2 bt227.1 bt227.2.1 bt227.2.2.1 bt227.2.2.2 bt231.1 bt231.2 bt235.1 bt235.2 bt237.1 bt237.2 true)) else (laws_FnBreakEven.j0 k bt220.1 bt220.2.1 bt220.2.2 bt223.1 bt223.2 bt227.1 bt227.2.1 bt227.2.2.1 bt227.2.2.2 bt231.1 bt231.2 bt235.1 bt235.2 bt237.1 bt237.2 true)) else (laws_FnBreakEven.j0 k bt220.1 bt220.2.1 bt220.2.2 bt223.1 bt223.2 bt227.1 bt227.2.1 bt227.2.2.1 bt227.2.2.2 bt231.1 bt231.2 bt235.1 bt235.2 bt237.1 bt237.2 true))))))))))))) = some r := h
  clear h
  replace H := Option.bind_eq_some_iff.mp H
  obtain ⟨t219, A20, H⟩ := H
  replace H : (if t219 = true then (some true) else ((spec_DrawBreakEven.f k l0).bind fun bt220 => ((impl_BreakEven.f k bt220.1 bt220.2.1 bt220.2.2).bind fun bt223 => ((spec_BreakEven.f k bt220.1 bt220.2.1 bt220.2.2).bind fun bt225 => ((spec_DrawCheaperOf.f k l0).bind fun bt227 => ((impl_CheaperOf.f k bt227.1 bt227.2.1 bt227.2.2.1 bt227.2.2.2).bind fun bt231 => ((spec_CheaperOf.f k bt227.1 bt227.2.1 bt227.2.2.1 bt227.2.2.2).bind fun bt233 => ((spec_DrawUnitPrice.f k l0).bind fun bt235 => ((impl_UnitPrice.f bt235.1 bt235.2).bind fun bt237 => ((spec_UnitPrice.f bt235.1 bt235.2).bind fun bt239 => (if bt223.2 = bt225.2 then (if bt223.1 = bt225.1 then (if bt231.2 = bt233.2 then (if bt231.1 = bt233.1 then (if bt237.2 = bt239.2 then (laws_FnBreakEven.j0 k bt220.1 bt220.2.1 bt220.2.2 bt223.1 bt223.2 bt227.1 bt227.2.1 bt227.2.2.1 bt227.2.2.2 bt231.1 bt231.2 bt235.1 bt235.2 bt237.1 bt237.2 (bt237.1 != bt239.1)) else (laws_FnBreakEven.j0 k bt220.1 bt220.2.1 bt220.2.2 bt223.1 bt223.2 bt227.1 bt227.2.1 bt227.2.2.1 bt227.2.2.2 bt231.1 bt231.2 bt235.1 bt235.2 bt237.1 bt237.2 true)) else (laws_FnBreakEven.j0 k bt220.1 bt220.2.1 bt220.2.2 bt223.1 bt223.2 bt227.1 bt227.2.1 bt227.2.2.1 bt227.2.2.2 bt231.1 bt231.2 bt235.1 bt235.2 bt237.1 bt237.2 true)) else (laws_FnBreakEven.j0 k bt220.1 bt220.2.1 bt220.2.2 bt223.1 bt223.2 bt227.1 bt227.2.1 bt227.2.2.1 bt227.2.2.2 bt231.1 bt231.2 bt235.1 bt235.2 bt237.1 bt237.2 true)) else (laws_FnBreakEven.j0 k bt220.1 bt220.2.1 bt220.2.2 bt223.1 bt223.2 bt227.1 bt227.2.1 bt227.2.2.1 bt227.2.2.2 bt231.1 bt231.2 bt235.1 bt235.2 bt237.1 bt237.2 true)) else (laws_FnBreakEven.j0 k bt220.1 bt220.2.1 bt220.2.2 bt223.1 bt223.2 bt227.1 bt227.2.1 bt227.2.2.1 bt227.2.2.2 bt231.1 bt231.2 bt235.1 bt235.2 bt237.1 bt237.2 true)))))))))))) = some r := H
  have A2 := Aside0.mk A20
  clear A20
  by_cases c3 : t219 = true
  · subst c3
    have H1 : (some true) = some r := by rw [if_pos rfl] at H; exact H
    clear H
    have H := H1
    clear H1
    obtain rfl := Option.some.inj H
    go_enter Try.func6, Try.ntmps6
    go_wp2_with (first | ((with_reducible refine gate_callee (f := 31) rfl ?_); refine goesL_ (some 25) rfl rfl Try.func31 (by kernel_rfl) rfl #[.slice A0 l0.length c0] rfl (by (try simp only [List.map_toArray, List.map_cons, List.map_nil]); first | done | rfl | (simp only [List.length_drop, List.length_take]; rfl)) ?_; (with_reducible refine (laws_big.calls _ _ l0 true _ ?side1 ?side2 A2.out).mono ?_); (case side1 => repeat (first | exact HR0.out | (with_reducible refine Kd.C_alloc ?_ _) | (with_reducible refine Kd.C_drewN ?_ _) | (with_reducible refine Kd.C_drew ?_))); (case side2 => exact HC0.out); rintro e w' ⟨rfl, ⟨nd, rfl⟩⟩; refine ⟨_, rfl, ?_⟩))
    go_ret
    exact ⟨by first | rfl | (simp [errW_none, errW_some] <;> rfl) | (simp [*, errW_none, errW_some] <;> rfl), by repeat (first | (with_reducible first | exact HB.out | apply below_alloc | apply pw_below_drewN | apply below_drew1) | exact HB.out)⟩
  · replace c3 := Bool.eq_false_iff.mpr c3
    subst c3
    have H1 : ((spec_DrawBreakEven.f k l0).bind fun bt220 => ((impl_BreakEven.f k bt220.1 bt220.2.1 bt220.2.2).bind fun bt223 => ((spec_BreakEven.f k bt220.1 bt220.2.1 bt220.2.2).bind fun bt225 => ((spec_DrawCheaperOf.f k l0).bind fun bt227 => ((impl_CheaperOf.f k bt227.1 bt227.2.1 bt227.2.2.1 bt227.2.2.2).bind fun bt231 => ((spec_CheaperOf.f k bt227.1 bt227.2.1 bt227.2.2.1 bt227.2.2.2).bind fun bt233 => ((spec_DrawUnitPrice.f k l0).bind fun bt235 => ((impl_UnitPrice.f bt235.1 bt235.2).bind fun bt237 => ((spec_UnitPrice.f bt235.1 bt235.2).bind fun bt239 => (if bt223.2 = bt225.2 then (if bt223.1 = bt225.1 then (if bt231.2 = bt233.2 then (if bt231.1 = bt233.1 then (if bt237.2 = bt239.2 then (laws_FnBreakEven.j0 k bt220.1 bt220.2.1 bt220.2.2 bt223.1 bt223.2 bt227.1 bt227.2.1 bt227.2.2.1 bt227.2.2.2 bt231.1 bt231.2 bt235.1 bt235.2 bt237.1 bt237.2 (bt237.1 != bt239.1)) else (laws_FnBreakEven.j0 k bt220.1 bt220.2.1 bt220.2.2 bt223.1 bt223.2 bt227.1 bt227.2.1 bt227.2.2.1 bt227.2.2.2 bt231.1 bt231.2 bt235.1 bt235.2 bt237.1 bt237.2 true)) else (laws_FnBreakEven.j0 k bt220.1 bt220.2.1 bt220.2.2 bt223.1 bt223.2 bt227.1 bt227.2.1 bt227.2.2.1 bt227.2.2.2 bt231.1 bt231.2 bt235.1 bt235.2 bt237.1 bt237.2 true)) else (laws_FnBreakEven.j0 k bt220.1 bt220.2.1 bt220.2.2 bt223.1 bt223.2 bt227.1 bt227.2.1 bt227.2.2.1 bt227.2.2.2 bt231.1 bt231.2 bt235.1 bt235.2 bt237.1 bt237.2 true)) else (laws_FnBreakEven.j0 k bt220.1 bt220.2.1 bt220.2.2 bt223.1 bt223.2 bt227.1 bt227.2.1 bt227.2.2.1 bt227.2.2.2 bt231.1 bt231.2 bt235.1 bt235.2 bt237.1 bt237.2 true)) else (laws_FnBreakEven.j0 k bt220.1 bt220.2.1 bt220.2.2 bt223.1 bt223.2 bt227.1 bt227.2.1 bt227.2.2.1 bt227.2.2.2 bt231.1 bt231.2 bt235.1 bt235.2 bt237.1 bt237.2 true))))))))))) = some r := by rw [if_neg (show ¬ (false = true) by decide)] at H; exact H
    clear H
    have H := H1
    clear H1
    replace H := Option.bind_eq_some_iff.mp H
    obtain ⟨⟨t220, t221, t222⟩, A40, H⟩ := H
    replace H : ((impl_BreakEven.f k t220 t221 t222).bind fun bt223 => ((spec_BreakEven.f k t220 t221 t222).bind fun bt225 => ((spec_DrawCheaperOf.f k l0).bind fun bt227 => ((impl_CheaperOf.f k bt227.1 bt227.2.1 bt227.2.2.1 bt227.2.2.2).bind fun bt231 => ((spec_CheaperOf.f k bt227.1 bt227.2.1 bt227.2.2.1 bt227.2.2.2).bind fun bt233 => ((spec_DrawUnitPrice.f k l0).bind fun bt235 => ((impl_UnitPrice.f bt235.1 bt235.2).bind fun bt237 => ((spec_UnitPrice.f bt235.1 bt235.2).bind fun bt239 => (if bt223.2 = bt225.2 then (if bt223.1 = bt225.1 then (if bt231.2 = bt233.2 then (if bt231.1 = bt233.1 then (if bt237.2 = bt239.2 then (laws_FnBreakEven.j0 k t220 t221 t222 bt223.1 bt223.2 bt227.1 bt227.2.1 bt227.2.2.1 bt227.2.2.2 bt231.1 bt231.2 bt235.1 bt235.2 bt237.1 bt237.2 (bt237.1 != bt239.1)) else (laws_FnBreakEven.j0 k t220 t221 t222 bt223.1 bt223.2 bt227.1 bt227.2.1 bt227.2.2.1 bt227.2.2.2 bt231.1 bt231.2 bt235.1 bt235.2 bt237.1 bt237.2 true)) else (laws_FnBreakEven.j0 k t220 t221 t222 bt223.1 bt223.2 bt227.1 bt227.2.1 bt227.2.2.1 bt227.2.2.2 bt231.1 bt231.2 bt235.1 bt235.2 bt237.1 bt237.2 true)) else (laws_FnBreakEven.j0 k t220 t221 t222 bt223.1 bt223.2 bt227.1 bt227.2.1 bt227.2.2.1 bt227.2.2.2 bt231.1 bt231.2 bt235.1 bt235.2 bt237.1 bt237.2 true)) else (laws_FnBreakEven.j0 k t220 t221 t222 bt223.1 bt223.2 bt227.1 bt227.2.1 bt227.2.2.1 bt227.2.2.2 bt231.1 bt231.2 bt235.1 bt235.2 bt237.1 bt237.2 true)) else (laws_FnBreakEven.j0 k t220 t221 t222 bt223.1 bt223.2 bt227.1 bt227.2.1 bt227.2.2.1 bt227.2.2.2 bt231.1 bt231.2 bt235.1 bt235.2 bt237.1 bt237.2 true)))))))))) = some r := H
    have A4 := Aside0.mk A40
    clear A40
    replace H := Option.bind_eq_some_iff.mp H
    obtain ⟨⟨t223, t224⟩, A50, H⟩ := H
    replace H : ((spec_BreakEven.f k t220 t221 t222).bind fun bt225 => ((spec_DrawCheaperOf.f k l0).bind fun bt227 => ((impl_CheaperOf.f k bt227.1 bt227.2.1 bt227.2.2.1 bt227.2.2.2).bind fun bt231 => ((spec_CheaperOf.f k bt227.1 bt227.2.1 bt227.2.2.1 bt227.2.2.2).bind fun bt233 => ((spec_DrawUnitPrice.f k l0).bind fun bt235 => ((impl_UnitPrice.f bt235.1 bt235.2).bind fun bt237 => ((spec_UnitPrice.f bt235.1 bt235.2).bind fun bt239 => (if t224 = bt225.2 then (if t223 = bt225.1 then (if bt231.2 = bt233.2 then (if bt231.1 = bt233.1 then (if bt237.2 = bt239.2 then (laws_FnBreakEven.j0 k t220 t221 t222 t223 t224 bt227.1 bt227.2.1 bt227.2.2.1 bt227.2.2.2 bt231.1 bt231.2 bt235.1 bt235.2 bt237.1 bt237.2 (bt237.1 != bt239.1)) else (laws_FnBreakEven.j0 k t220 t221 t222 t223 t224 bt227.1 bt227.2.1 bt227.2.2.1 bt227.2.2.2 bt231.1 bt231.2 bt235.1 bt235.2 bt237.1 bt237.2 true)) else (laws_FnBreakEven.j0 k t220 t221 t222 t223 t224 bt227.1 bt227.2.1 bt227.2.2.1 bt227.2.2.2 bt231.1 bt231.2 bt235.1 bt235.2 bt237.1 bt237.2 true)) else (laws_FnBreakEven.j0 k t220 t221 t222 t223 t224 bt227.1 bt227.2.1 bt227.2.2.1 bt227.2.2.2 bt231.1 bt231.2 bt235.1 bt235.2 bt237.1 bt237.2 true)) else (laws_FnBreakEven.j0 k t220 t221 t222 t223 t224 bt227.1 bt227.2.1 bt227.2.2.1 bt227.2.2.2 bt231.1 bt231.2 bt235.1 bt235.2 bt237.1 bt237.2 true)) else (laws_FnBreakEven.j0 k t220 t221 t222 t223 t224 bt227.1 bt227.2.1 bt227.2.2.1 bt227.2.2.2 bt231.1 bt231.2 bt235.1 bt235.2 bt237.1 bt237.2 true))))))))) = some r := H
    have A5 := Aside0.mk A50
    clear A50
    replace H := Option.bind_eq_some_iff.mp H
    obtain ⟨⟨t225, t226⟩, A60, H⟩ := H
    replace H : ((spec_DrawCheaperOf.f k l0).bind fun bt227 => ((impl_CheaperOf.f k bt227.1 bt227.2.1 bt227.2.2.1 bt227.2.2.2).bind fun bt231 => ((spec_CheaperOf.f k bt227.1 bt227.2.1 bt227.2.2.1 bt227.2.2.2).bind fun bt233 => ((spec_DrawUnitPrice.f k l0).bind fun bt235 => ((impl_UnitPrice.f bt235.1 bt235.2).bind fun bt237 => ((spec_UnitPrice.f bt235.1 bt235.2).bind fun bt239 => (if t224 = t226 then (if t223 = t225 then (if bt231.2 = bt233.2 then (if bt231.1 = bt233.1 then (if bt237.2 = bt239.2 then (laws_FnBreakEven.j0 k t220 t221 t222 t223 t224 bt227.1 bt227.2.1 bt227.2.2.1 bt227.2.2.2 bt231.1 bt231.2 bt235.1 bt235.2 bt237.1 bt237.2 (bt237.1 != bt239.1)) else (laws_FnBreakEven.j0 k t220 t221 t222 t223 t224 bt227.1 bt227.2.1 bt227.2.2.1 bt227.2.2.2 bt231.1 bt231.2 bt235.1 bt235.2 bt237.1 bt237.2 true)) else (laws_FnBreakEven.j0 k t220 t221 t222 t223 t224 bt227.1 bt227.2.1 bt227.2.2.1 bt227.2.2.2 bt231.1 bt231.2 bt235.1 bt235.2 bt237.1 bt237.2 true)) else (laws_FnBreakEven.j0 k t220 t221 t222 t223 t224 bt227.1 bt227.2.1 bt227.2.2.1 bt227.2.2.2 bt231.1 bt231.2 bt235.1 bt235.2 bt237.1 bt237.2 true)) else (laws_FnBreakEven.j0 k t220 t221 t222 t223 t224 bt227.1 bt227.2.1 bt227.2.2.1 bt227.2.2.2 bt231.1 bt231.2 bt235.1 bt235.2 bt237.1 bt237.2 true)) else (laws_FnBreakEven.j0 k t220 t221 t222 t223 t224 bt227.1 bt227.2.1 bt227.2.2.1 bt227.2.2.2 bt231.1 bt231.2 bt235.1 bt235.2 bt237.1 bt237.2 true)))))))) = some r := H
    have A6 := Aside0.mk A60
    clear A60
    replace H := Option.bind_eq_some_iff.mp H
    obtain ⟨⟨t227, t228, t229, t230⟩, A70, H⟩ := H
    replace H : ((impl_CheaperOf.f k t227 t228 t229 t230).bind fun bt231 => ((spec_CheaperOf.f k t227 t228 t229 t230).bind fun bt233 => ((spec_DrawUnitPrice.f k l0).bind fun bt235 => ((impl_UnitPrice.f bt235.1 bt235.2).bind fun bt237 => ((spec_UnitPrice.f bt235.1 bt235.2).bind fun bt239 => (if t224 = t226 then (if t223 = t225 then (if bt231.2 = bt233.2 then (if bt231.1 = bt233.1 then (if bt237.2 = bt239.2 then (laws_FnBreakEven.j0 k t220 t221 t222 t223 t224 t227 t228 t229 t230 bt231.1 bt231.2 bt235.1 bt235.2 bt237.1 bt237.2 (bt237.1 != bt239.1)) else (laws_FnBreakEven.j0 k t220 t221 t222 t223 t224 t227 t228 t229 t230 bt231.1 bt231.2 bt235.1 bt235.2 bt237.1 bt237.2 true)) else (laws_FnBreakEven.j0 k t220 t221 t222 t223 t224 t227 t228 t229 t230 bt231.1 bt231.2 bt235.1 bt235.2 bt237.1 bt237.2 true)) else (laws_FnBreakEven.j0 k t220 t221 t222 t223 t224 t227 t228 t229 t230 bt231.1 bt231.2 bt235.1 bt235.2 bt237.1 bt237.2 true)) else (laws_FnBreakEven.j0 k t220 t221 t222 t223 t224 t227 t228 t229 t230 bt231.1 bt231.2 bt235.1 bt235.2 bt237.1 bt237.2 true)) else (laws_FnBreakEven.j0 k t220 t221 t222 t223 t224 t227 t228 t229 t230 bt231.1 bt231.2 bt235.1 bt235.2 bt237.1 bt237.2 true))))))) = some r := H
    have A7 := Aside0.mk A70
    clear A70
    replace H := Option.bind_eq_some_iff.mp H
    obtain ⟨⟨t231, t232⟩, A80, H⟩ := H
    replace H : ((spec_CheaperOf.f k t227 t228 t229 t230).bind fun bt233 => ((spec_DrawUnitPrice.f k l0).bind fun bt235 => ((impl_UnitPrice.f bt235.1 bt235.2).bind fun bt237 => ((spec_UnitPrice.f bt235.1 bt235.2).bind fun bt239 => (if t224 = t226 then (if t223 = t225 then (if t232 = bt233.2 then (if t231 = bt233.1 then (if bt237.2 = bt239.2 then (laws_FnBreakEven.j0 k t220 t221 t222 t223 t224 t227 t228 t229 t230 t231 t232 bt235.1 bt235.2 bt237.1 bt237.2 (bt237.1 != bt239.1)) else (laws_FnBreakEven.j0 k t220 t221 t222 t223 t224 t227 t228 t229 t230 t231 t232 bt235.1 bt235.2 bt237.1 bt237.2 true)) else (laws_FnBreakEven.j0 k t220 t221 t222 t223 t224 t227 t228 t229 t230 t231 t232 bt235.1 bt235.2 bt237.1 bt237.2 true)) else (laws_FnBreakEven.j0 k t220 t221 t222 t223 t224 t227 t228 t229 t230 t231 t232 bt235.1 bt235.2 bt237.1 bt237.2 true)) else (laws_FnBreakEven.j0 k t220 t221 t222 t223 t224 t227 t228 t229 t230 t231 t232 bt235.1 bt235.2 bt237.1 bt237.2 true)) else (laws_FnBreakEven.j0 k t220 t221 t222 t223 t224 t227 t228 t229 t230 t231 t232 bt235.1 bt235.2 bt237.1 bt237.2 true)))))) = some r := H
    have A8 := Aside0.mk A80
    clear A80
    replace H := Option.bind_eq_some_iff.mp H
    obtain ⟨⟨t233, t234⟩, A90, H⟩ := H
    replace H : ((spec_DrawUnitPrice.f k l0).bind fun bt235 => ((impl_UnitPrice.f bt235.1 bt235.2).bind fun bt237 => ((spec_UnitPrice.f bt235.1 bt235.2).bind fun bt239 => (if t224 = t226 then (if t223 = t225 then (if t232 = t234 then (if t231 = t233 then (if bt237.2 = bt239.2 then (laws_FnBreakEven.j0 k t220 t221 t222 t223 t224 t227 t228 t229 t230 t231 t232 bt235.1 bt235.2 bt237.1 bt237.2 (bt237.1 != bt239.1)) else (laws_FnBreakEven.j0 k t220 t221 t222 t223 t224 t227 t228 t229 t230 t231 t232 bt235.1 bt235.2 bt237.1 bt237.2 true)) else (laws_FnBreakEven.j0 k t220 t221 t222 t223 t224 t227 t228 t229 t230 t231 t232 bt235.1 bt235.2 bt237.1 bt237.2 true)) else (laws_FnBreakEven.j0 k t220 t221 t222 t223 t224 t227 t228 t229 t230 t231 t232 bt235.1 bt235.2 bt237.1 bt237.2 true)) else (laws_FnBreakEven.j0 k t220 t221 t222 t223 t224 t227 t228 t229 t230 t231 t232 bt235.1 bt235.2 bt237.1 bt237.2 true)) else (laws_FnBreakEven.j0 k t220 t221 t222 t223 t224 t227 t228 t229 t230 t231 t232 bt235.1 bt235.2 bt237.1 bt237.2 true))))) = some r := H
    have A9 := Aside0.mk A90
    clear A90
    replace H := Option.bind_eq_some_iff.mp H
    obtain ⟨⟨t235, t236⟩, A100, H⟩ := H
    replace H : ((impl_UnitPrice.f t235 t236).bind fun bt237 => ((spec_UnitPrice.f t235 t236).bind fun bt239 => (if t224 = t226 then (if t223 = t225 then (if t232 = t234 then (if t231 = t233 then (if bt237.2 = bt239.2 then (laws_FnBreakEven.j0 k t220 t221 t222 t223 t224 t227 t228 t229 t230 t231 t232 t235 t236 bt237.1 bt237.2 (bt237.1 != bt239.1)) else (laws_FnBreakEven.j0 k t220 t221 t222 t223 t224 t227 t228 t229 t230 t231 t232 t235 t236 bt237.1 bt237.2 true)) else (laws_FnBreakEven.j0 k t220 t221 t222 t223 t224 t227 t228 t229 t230 t231 t232 t235 t236 bt237.1 bt237.2 true)) else (laws_FnBreakEven.j0 k t220 t221 t222 t223 t224 t227 t228 t229 t230 t231 t232 t235 t236 bt237.1 bt237.2 true)) else (laws_FnBreakEven.j0 k t220 t221 t222 t223 t224 t227 t228 t229 t230 t231 t232 t235 t236 bt237.1 bt237.2 true)) else (laws_FnBreakEven.j0 k t220 t221 t222 t223 t224 t227 t228 t229 t230 t231 t232 t235 t236 bt237.1 bt237.2 true)))) = some r := H
    have A10 := Aside0.mk A100
    clear A100
    replace H := Option.bind_eq_some_iff.mp H
    obtain ⟨⟨t237, t238⟩, A110, H⟩ := H
    replace H : ((spec_UnitPrice.f t235 t236).bind fun bt239 => (if t224 = t226 then (if t223 = t225 then (if t232 = t234 then (if t231 = t233 then (if t238 = bt239.2 then (laws_FnBreakEven.j0 k t220 t221 t222 t223 t224 t227 t228 t229 t230 t231 t232 t235 t236 t237 t238 (t237 != bt239.1)) else (laws_FnBreakEven.j0 k t220 t221 t222 t223 t224 t227 t228 t229 t230 t231 t232 t235 t236 t237 t238 true)) else (laws_FnBreakEven.j0 k t220 t221 t222 t223 t224 t227 t228 t229 t230 t231 t232 t235 t236 t237 t238 true)) else (laws_FnBreakEven.j0 k t220 t221 t222 t223 t224 t227 t228 t229 t230 t231 t232 t235 t236 t237 t238 true)) else (laws_FnBreakEven.j0 k t220 t221 t222 t223 t224 t227 t228 t229 t230 t231 t232 t235 t236 t237 t238 true)) else (laws_FnBreakEven.j0 k t220 t221 t222 t223 t224 t227 t228 t229 t230 t231 t232 t235 t236 t237 t238 true))) = some r := H
    have A11 := Aside0.mk A110
    clear A110
    replace H := Option.bind_eq_some_iff.mp H
    obtain ⟨⟨t239, t240⟩, A120, H⟩ := H
    replace H : (if t224 = t226 then (if t223 = t225 then (if t232 = t234 then (if t231 = t233 then (if t238 = t240 then (laws_FnBreakEven.j0 k t220 t221 t222 t223 t224 t227 t228 t229 t230 t231 t232 t235 t236 t237 t238 (t237 != t239)) else (laws_FnBreakEven.j0 k t220 t221 t222 t223 t224 t227 t228 t229 t230 t231 t232 t235 t236 t237 t238 true)) else (laws_FnBreakEven.j0 k t220 t221 t222 t223 t224 t227 t228 t229 t230 t231 t232 t235 t236 t237 t238 true)) else (laws_FnBreakEven.j0 k t220 t221 t222 t223 t224 t227 t228 t229 t230 t231 t232 t235 t236 t237 t238 true)) else (laws_FnBreakEven.j0 k t220 t221 t222 t223 t224 t227 t228 t229 t230 t231 t232 t235 t236 t237 t238 true)) else (laws_FnBreakEven.j0 k t220 t221 t222 t223 t224 t227 t228 t229 t230 t231 t232 t235 t236 t237 t238 true)) = some r := H
    have A12 := Aside0.mk A120
    clear A120
    have HC13 := Aside0.mk H
    clear H
    go_enter Try.func6, Try.ntmps6
    go_upto_region 12 with (first | ((with_reducible refine gate_callee (f := 31) rfl ?_); refine goesL_ (some 25) rfl rfl Try.func31 (by kernel_rfl) rfl #[.slice A0 l0.length c0] rfl (by (try simp only [List.map_toArray, List.map_cons, List.map_nil]); first | done | rfl | (simp only [List.length_drop, List.length_take]; rfl)) ?_; (with_reducible refine (laws_big.calls _ _ l0 false _ ?side1 ?side2 A2.out).mono ?_); (case side1 => repeat (first | exact HR0.out | (with_reducible refine Kd.C_alloc ?_ _) | (with_reducible refine Kd.C_drewN ?_ _) | (with_reducible refine Kd.C_drew ?_))); (case side2 => exact HC0.out); rintro e w' ⟨rfl, ⟨nd, rfl⟩⟩; refine ⟨_, rfl, ?_⟩) | ((with_reducible refine gate_callee (f := 32) rfl ?_); refine goesL_ (some 28) rfl rfl Try.func32 (by kernel_rfl) rfl #[.slice A0 l0.length c0] rfl (by (try simp only [List.map_toArray, List.map_cons, List.map_nil]); first | done | rfl | (simp only [List.length_drop, List.length_take]; rfl)) ?_; (with_reducible refine (spec_DrawBreakEven.calls k _ _ l0 t220 t221 t222 _ ?side1 ?side2 A4.out).mono ?_); (case side1 => repeat (first | exact HR0.out | (with_reducible refine Kd.C_alloc ?_ _) | (with_reducible refine Kd.C_drewN ?_ _) | (with_reducible refine Kd.C_drew ?_))); (case side2 => exact HC0.out); rintro e w14 ⟨rfl, hb⟩; refine ⟨_, rfl, ?_⟩; have n0_ := Aside0.mk (below_step (by repeat (first | (with_reducible first | exact HB.out | apply below_alloc | apply pw_below_drewN | apply below_drew1) | exact HB.out)) hb); clear HB; have HB := n0_; clear n0_; (try clear hb); (try clear hb2); (try clear hk); (try clear hi)) | ((with_reducible refine gate_callee (f := 33) rfl ?_); refine goesL_ (some 36) rfl rfl Try.func33 (by kernel_rfl) rfl #[.int .i64 t220, .int .i64 t221, .int .i64 t222] rfl (by (try simp only [List.map_toArray, List.map_cons, List.map_nil]); first | done | rfl | (simp only [List.length_drop, List.length_take]; rfl)) ?_; (with_reducible refine (impl_BreakEven.calls k t220 t221 t222 t223 t224 _ A5.out).mono ?_); rintro e w15 ⟨rfl, hb⟩; refine ⟨_, rfl, ?_⟩; have n0_ := Aside0.mk (below_step (by repeat (first | (with_reducible first | exact HB.out | apply below_alloc | apply pw_below_drewN | apply below_drew1) | exact HB.out)) hb); clear HB; have HB := n0_; clear n0_; (try clear hb); (try clear hb2); (try clear hk); (try clear hi)) | ((with_reducible refine gate_callee (f := 34) rfl ?_); refine goesL_ (some 43) rfl rfl Try.func34 (by kernel_rfl) rfl #[.int .i64 t220, .int .i64 t221, .int .i64 t222] rfl (by (try simp only [List.map_toArray, List.map_cons, List.map_nil]); first | done | rfl | (simp only [List.length_drop, List.length_take]; rfl)) ?_; (with_reducible refine (spec_BreakEven.calls k t220 t221 t222 t225 t226 _ A6.out).mono ?_); rintro e w16 ⟨rfl, hb⟩; refine ⟨_, rfl, ?_⟩; have n0_ := Aside0.mk (below_step (by repeat (first | (with_reducible first | exact HB.out | apply below_alloc | apply pw_below_drewN | apply below_drew1) | exact HB.out)) hb); clear HB; have HB := n0_; clear n0_; (try clear hb); (try clear hb2); (try clear hk); (try clear hi)) | ((with_reducible refine gate_callee (f := 35) rfl ?_); refine goesL_ (some 48) rfl rfl Try.func35 (by kernel_rfl) rfl #[.slice A0 l0.length c0] rfl (by (try simp only [List.map_toArray, List.map_cons, List.map_nil]); first | done | rfl | (simp only [List.length_drop, List.length_take]; rfl)) ?_; (with_reducible refine (spec_DrawCheaperOf.calls k _ _ l0 t227 t228 t229 t230 _ ?side1 ?side2 A7.out).mono ?_); (case side1 => repeat (first | exact (Kd.C_below HR0.out HB.out) | (with_reducible refine Kd.C_alloc ?_ _) | (with_reducible refine Kd.C_drewN ?_ _) | (with_reducible refine Kd.C_drew ?_))); (case side2 => exact HC0.out); rintro e w17 ⟨rfl, hb⟩; refine ⟨_, rfl, ?_⟩; have n0_ := Aside0.mk (below_step (by repeat (first | (with_reducible first | exact HB.out | apply below_alloc | apply pw_below_drewN | apply below_drew1) | exact HB.out)) hb); clear HB; have HB := n0_; clear n0_; (try clear hb); (try clear hb2); (try clear hk); (try clear hi)) | ((with_reducible refine gate_callee (f := 36) rfl ?_); refine goesL_ (some 58) rfl rfl Try.func36 (by kernel_rfl) rfl #[.int .i64 t227, .int .i64 t228, .int .i64 t229, .int .i64 t230] rfl (by (try simp only [List.map_toArray, List.map_cons, List.map_nil]); first | done | rfl | (simp only [List.length_drop, List.length_take]; rfl)) ?_; (with_reducible refine (impl_CheaperOf.calls k t227 t228 t229 t230 t231 t232 _ A8.out).mono ?_); rintro e w' ⟨rfl, ⟨nd, rfl⟩⟩; refine ⟨_, rfl, ?_⟩) | ((with_reducible refine gate_callee (f := 37) rfl ?_); refine goesL_ (some 66) rfl rfl Try.func37 (by kernel_rfl) rfl #[.int .i64 t227, .int .i64 t228, .int .i64 t229, .int .i64 t230] rfl (by (try simp only [List.map_toArray, List.map_cons, List.map_nil]); first | done | rfl | (simp only [List.length_drop, List.length_take]; rfl)) ?_; (with_reducible refine (spec_CheaperOf.calls k t227 t228 t229 t230 t233 t234 _ A9.out).mono ?_); rintro e w' ⟨rfl, ⟨nd, rfl⟩⟩; refine ⟨_, rfl, ?_⟩) | ((with_reducible refine gate_callee (f := 38) rfl ?_); refine goesL_ (some 71) rfl rfl Try.func38 (by kernel_rfl) rfl #[.slice A0 l0.length c0] rfl (by (try simp only [List.map_toArray, List.map_cons, List.map_nil]); first | done | rfl | (simp only [List.length_drop, List.length_take]; rfl)) ?_; (with_reducible refine (spec_DrawUnitPrice.calls k _ _ l0 t235 t236 _ ?side1 ?side2 A10.out).mono ?_); (case side1 => repeat (first | exact (Kd.C_below HR0.out (by repeat (first | (with_reducible first | exact HB.out | apply below_alloc | apply pw_below_drewN | apply below_drew1) | exact HB.out))) | (with_reducible refine Kd.C_alloc ?_ _) | (with_reducible refine Kd.C_drewN ?_ _) | (with_reducible refine Kd.C_drew ?_))); (case side2 => exact HC0.out); rintro e w18 ⟨rfl, hb⟩; refine ⟨_, rfl, ?_⟩; have n0_ := Aside0.mk (below_step (by repeat (first | (with_reducible first | exact HB.out | apply below_alloc | apply pw_below_drewN | apply below_drew1) | exact HB.out)) hb); clear HB; have HB := n0_; clear n0_; (try clear hb); (try clear hb2); (try clear hk); (try clear hi)) | ((with_reducible refine gate_callee (f := 39) rfl ?_); refine goesL_ (some 77) rfl rfl Try.func39 (by kernel_rfl) rfl #[.int .i64 t235, .int .i64 t236] rfl (by (try simp only [List.map_toArray, List.map_cons, List.map_nil]); first | done | rfl | (simp only [List.length_drop, List.length_take]; rfl)) ?_; (with_reducible refine (impl_UnitPrice.calls t235 t236 t237 t238 _ A11.out).mono ?_); rintro e w' ⟨rfl, ⟨nd, rfl⟩⟩; refine ⟨_, rfl, ?_⟩) | ((with_reducible refine gate_callee (f := 40) rfl ?_); refine goesL_ (some 83) rfl rfl Try.func40 (by kernel_rfl) rfl #[.int .i64 t235, .int .i64 t236] rfl (by (try simp only [List.map_toArray, List.map_cons, List.map_nil]); first | done | rfl | (simp only [List.length_drop, List.length_take]; rfl)) ?_; (with_reducible refine (spec_UnitPrice.calls t235 t236 t239 t240 _ A12.out).mono ?_); rintro e w' ⟨rfl, ⟨nd, rfl⟩⟩; refine ⟨_, rfl, ?_⟩))
    (try simp only [Act.put, List.setIfInBounds_toArray, List.set_cons_zero, List.set_cons_succ])
    go_cut [113] (fun v113 wc => ∃ (kq : Nat) (x113_12 : Bool), v113 = .bool x113_12 ∧ Aside0 (laws_FnBreakEven.j0 kq t220 t221 t222 t223 t224 t227 t228 t229 t230 t231 t232 t235 t236 t237 t238 x113_12 = some r) ∧ Aside0 (kq ≤ k) ∧ Aside0 (Below w.heap.size w wc))
    case first =>
      have H := HC13.out
      clear HC13
      by_cases c19 : t224 = t226
      · rw [if_pos c19] at H
        have c19b0 : (t224 == t226) = true := beq_iff_eq.mpr c19
        have c19b1 : (t224 != t226) = false := bne_eq_false_iff_eq.mpr c19
        clear c19
        (first | rw [c19b0] | (simp only [i64_w, i32_w]; rw [c19b0]) | skip)
        by_cases c20 : t223 = t225
        · rw [if_pos c20] at H
          have c20b0 : (t223 == t225) = true := beq_iff_eq.mpr c20
          have c20b1 : (t223 != t225) = false := bne_eq_false_iff_eq.mpr c20
          clear c20
          by_cases c21 : t232 = t234
          · rw [if_pos c21] at H
            have c21b0 : (t232 == t234) = true := beq_iff_eq.mpr c21
            have c21b1 : (t232 != t234) = false := bne_eq_false_iff_eq.mpr c21
            clear c21
            by_cases c22 : t231 = t233
            · rw [if_pos c22] at H
              have c22b0 : (t231 == t233) = true := beq_iff_eq.mpr c22
              have c22b1 : (t231 != t233) = false := bne_eq_false_iff_eq.mpr c22
              clear c22
              by_cases c23 : t238 = t240
              · rw [if_pos c23] at H
                have c23b0 : (t238 == t240) = true := beq_iff_eq.mpr c23
                have c23b1 : (t238 != t240) = false := bne_eq_false_iff_eq.mpr c23
                clear c23
                have H' := Aside0.mk H
                clear H
                go_wp2
                go_meet
                case rel => exact ⟨_, ((t237 != t239)), (by first | rfl | (simp; done) | (simp [*]; done)), H', ⟨by first | omega | exact Nat.le_refl _⟩, ⟨by repeat (first | (with_reducible first | exact HB.out | apply below_alloc | apply pw_below_drewN | apply below_drew1) | exact HB.out)⟩⟩
              · rw [if_neg c23] at H
                have c23b0 : (t238 == t240) = false := beq_eq_false_iff_ne.mpr c23
                have c23b1 : (t238 != t240) = true := bne_iff_ne.mpr c23
                have H' := Aside0.mk H
                clear H
                go_wp2
                go_meet
                case rel => exact ⟨_, (true), (by first | rfl | (simp; done) | (simp [*]; done)), H', ⟨by first | omega | exact Nat.le_refl _⟩, ⟨by repeat (first | (with_reducible first | exact HB.out | apply below_alloc | apply pw_below_drewN | apply below_drew1) | exact HB.out)⟩⟩
            · rw [if_neg c22] at H
              have c22b0 : (t231 == t233) = false := beq_eq_false_iff_ne.mpr c22
              have c22b1 : (t231 != t233) = true := bne_iff_ne.mpr c22
              have H' := Aside0.mk H
              clear H
              go_wp2
              go_meet
              case rel => exact ⟨_, (true), (by first | rfl | (simp; done) | (simp [*]; done)), H', ⟨by first | omega | exact Nat.le_refl _⟩, ⟨by repeat (first | (with_reducible first | exact HB.out | apply below_alloc | apply pw_below_drewN | apply below_drew1) | exact HB.out)⟩⟩
          · rw [if_neg c21] at H
            have c21b0 : (t232 == t234) = false := beq_eq_false_iff_ne.mpr c21
            have c21b1 : (t232 != t234) = true := bne_iff_ne.mpr c21
            have H' := Aside0.mk H
            clear H
            go_wp2
            go_meet
            case rel => exact ⟨_, (true), (by first | rfl | (simp; done) | (simp [*]; done)), H', ⟨by first | omega | exact Nat.le_refl _⟩, ⟨by repeat (first | (with_reducible first | exact HB.out | apply below_alloc | apply pw_below_drewN | apply below_drew1) | exact HB.out)⟩⟩
        · rw [if_neg c20] at H
          have c20b0 : (t223 == t225) = false := beq_eq_false_iff_ne.mpr c20
          have c20b1 : (t223 != t225) = true := bne_iff_ne.mpr c20
          have H' := Aside0.mk H
          clear H
          go_wp2
          go_meet
          case rel => exact ⟨_, (true), (by first | rfl | (simp; done) | (simp [*]; done)), H', ⟨by first | omega | exact Nat.le_refl _⟩, ⟨by repeat (first | (with_reducible first | exact HB.out | apply below_alloc | apply pw_below_drewN | apply below_drew1) | exact HB.out)⟩⟩
      · rw [if_neg c19] at H
        have c19b0 : (t224 == t226) = false := beq_eq_false_iff_ne.mpr c19
        have c19b1 : (t224 != t226) = true := bne_iff_ne.mpr c19
        (first | rw [c19b0] | (simp only [i64_w, i32_w]; rw [c19b0]) | skip)
        have H' := Aside0.mk H
        clear H
        go_wp2
        go_meet
        case rel => exact ⟨_, (true), (by first | rfl | (simp; done) | (simp [*]; done)), H', ⟨by first | omega | exact Nat.le_refl _⟩, ⟨by repeat (first | (with_reducible first | exact HB.out | apply below_alloc | apply pw_below_drewN | apply below_drew1) | exact HB.out)⟩⟩
    case rest =>
      clear HC13
      try clear c1
      try clear c2
      try clear p2
      try clear c3
      try clear c4
      try clear c6
      try clear c19
      try clear c19b0
      try clear c19b1
      try clear c20
      try clear c20b0
      try clear c20b1
      try clear c21
      try clear c21b0
      try clear c21b1
      try clear c22
      try clear c22b0
      try clear c22b1
      try clear c23
      try clear c23b0
      try clear c23b1
      obtain ⟨kq, x113_12, rfl, HA, HJ12, HB⟩ := hcut
      cases kq with
      | zero => exact absurd HA.out (by simp [laws_FnBreakEven.j0])
      | succ kj12 =>
        have H := HA.out
        clear HA
        simp only [laws_FnBreakEven.j0] at H
        by_cases c24 : x113_12 = true
        · subst c24
          have H1 : (some false) = some r := by rw [if_pos rfl] at H; exact H
          clear H
          have H := H1
          clear H1
          exact absurd ((Option.some.inj H).trans hT.out) (by decide)
        · replace c24 := Bool.eq_false_iff.mpr c24
          subst c24
          have H1 : (if t238 = 0 then (if (wrap64 (t237 * t236)) < t235 then (laws_FnBreakEven.j1 kj12 t220 t221 t222 t223 t224 t227 t228 t229 t230 t231 t232 true) else (if t237 > 0 then (laws_FnBreakEven.j1 kj12 t220 t221 t222 t223 t224 t227 t228 t229 t230 t231 t232 (decide ((wrap64 ((wrap64 (t237 - 1)) * t236)) ≥ t235))) else (laws_FnBreakEven.j1 kj12 t220 t221 t222 t223 t224 t227 t228 t229 t230 t231 t232 false))) else (laws_FnBreakEven.j1 kj12 t220 t221 t222 t223 t224 t227 t228 t229 t230 t231 t232 false)) = some r := by rw [if_neg (show ¬ (false = true) by decide)] at H; exact H
          clear H
          have H := H1
          clear H1
          have HC25 := Aside0.mk H
          clear H
          go_upto_region 14 with (fail)
          go_cut [134] (fun v134 wc => ∃ (kq : Nat) (x134_24 : Bool), v134 = .bool x134_24 ∧ Aside0 (laws_FnBreakEven.j1 kq t220 t221 t222 t223 t224 t227 t228 t229 t230 t231 t232 x134_24 = some r) ∧ Aside0 (kq ≤ kj12) ∧ Aside0 (Below w.heap.size w wc))
          case first =>
            have H := HC25.out
            clear HC25
            by_cases c26 : t238 = 0
            · rw [if_pos c26] at H
              have c26b0 : (t238 == 0) = true := beq_iff_eq.mpr c26
              have c26b1 : (t238 != 0) = false := bne_eq_false_iff_eq.mpr c26
              clear c26
              (first | rw [c26b0] | (simp only [i64_w, i32_w]; rw [c26b0]) | skip)
              by_cases c27 : (wrap64 (t237 * t236)) < t235
              · rw [if_pos c27] at H
                have c27b0 : decide ((wrap64 (t237 * t236)) < t235) = true := decide_eq_true c27
                clear c27
                have H' := Aside0.mk H
                clear H
                go_wp2
                go_meet
                case rel => exact ⟨_, (true), (by first | rfl | (simp; done) | (simp [*]; done)), H', ⟨by have := HJ12.out; first | omega | exact Nat.le_refl _⟩, ⟨by repeat (first | (with_reducible first | exact HB.out | apply below_alloc | apply pw_below_drewN | apply below_drew1) | exact HB.out)⟩⟩
              · rw [if_neg c27] at H
                have c27b0 : decide ((wrap64 (t237 * t236)) < t235) = false := decide_eq_false c27
                clear c27
                by_cases c28 : t237 > 0
                · rw [if_pos c28] at H
                  have c28b0 : decide (0 < t237) = true := decide_eq_true c28
                  clear c28
                  have H' := Aside0.mk H
                  clear H
                  go_wp2
                  go_meet
                  case rel => exact ⟨_, (decide ((wrap64 ((wrap64 (t237 - 1)) * t236)) ≥ t235)), (by first | rfl | (simp; done) | (simp [*]; done)), H', ⟨by have := HJ12.out; first | omega | exact Nat.le_refl _⟩, ⟨by repeat (first | (with_reducible first | exact HB.out | apply below_alloc | apply pw_below_drewN | apply below_drew1) | exact HB.out)⟩⟩
                · rw [if_neg c28] at H
                  have c28b0 : decide (0 < t237) = false := decide_eq_false c28
                  clear c28
                  have H' := Aside0.mk H
                  clear H
                  go_wp2
                  go_meet
                  case rel => exact ⟨_, (false), (by first | rfl | (simp; done) | (simp [*]; done)), H', ⟨by have := HJ12.out; first | omega | exact Nat.le_refl _⟩, ⟨by repeat (first | (with_reducible first | exact HB.out | apply below_alloc | apply pw_below_drewN | apply below_drew1) | exact HB.out)⟩⟩
            · rw [if_neg c26] at H
              have c26b0 : (t238 == 0) = false := beq_eq_false_iff_ne.mpr c26
              have c26b1 : (t238 != 0) = true := bne_iff_ne.mpr c26
              (first | rw [c26b0] | (simp only [i64_w, i32_w]; rw [c26b0]) | skip)
              have H' := Aside0.mk H
              clear H
              go_wp2
              go_meet
              case rel => exact ⟨_, (false), (by first | rfl | (simp; done) | (simp [*]; done)), H', ⟨by have := HJ12.out; first | omega | exact Nat.le_refl _⟩, ⟨by repeat (first | (with_reducible first | exact HB.out | apply below_alloc | apply pw_below_drewN | apply below_drew1) | exact HB.out)⟩⟩
          case rest =>
            clear HC25
            try clear c1
            try clear c2
            try clear p2
            try clear c3
            try clear c4
            try clear c6
            try clear p6
            try clear c19
            try clear c19b0
            try clear c19b1
            try clear c20
            try clear c20b0
            try clear c20b1
            try clear c21
            try clear c21b0
            try clear c21b1
            try clear c22
            try clear c22b0
            try clear c22b1
            try clear c23
            try clear c23b0
            try clear c23b1
            try clear c24
            try clear c26
            try clear c26b0
            try clear c26b1
            try clear c27
            try clear c27b0
            try clear c28
            try clear c28b0
            try clear p2
            obtain ⟨kq, x134_24, rfl, HA, HJ24, HB⟩ := hcut
            cases kq with
            | zero => exact absurd HA.out (by simp [laws_FnBreakEven.j1])
            | succ kj24 =>
              have H := HA.out
              clear HA
              simp only [laws_FnBreakEven.j1] at H
              by_cases c29 : x134_24 = true
              · subst c29
                have H1 : (some false) = some r := by rw [if_pos rfl] at H; exact H
                clear H
                have H := H1
                clear H1
                exact absurd ((Option.some.inj H).trans hT.out) (by decide)
              · replace c29 := Bool.eq_false_iff.mpr c29
                subst c29
                have H1 : (if t232 = 0 then (if (wrap64 (t229 + (wrap64 (t231 * t230)))) ≥ (wrap64 (t227 + (wrap64 (t231 * t228)))) then (some false) else (if t231 > 0 then (if (wrap64 (t229 + (wrap64 ((wrap64 (t231 - 1)) * t230)))) < (wrap64 (t227 + (wrap64 ((wrap64 (t231 - 1)) * t228)))) then (some false) else (if t224 = 0 then (if (wrap64 (t223 * t222)) ≥ (wrap64 (t220 + (wrap64 (t223 * t221)))) then (if t223 = 1 then (some true) else (some (decide ((wrap64 ((wrap64 (t223 - 1)) * t222)) < (wrap64 (t220 + (wrap64 ((wrap64 (t223 - 1)) * t221)))))))) else (some false)) else (some true))) else (if t224 = 0 then (if (wrap64 (t223 * t222)) ≥ (wrap64 (t220 + (wrap64 (t223 * t221)))) then (if t223 = 1 then (some true) else (some (decide ((wrap64 ((wrap64 (t223 - 1)) * t222)) < (wrap64 (t220 + (wrap64 ((wrap64 (t223 - 1)) * t221)))))))) else (some false)) else (some true)))) else (if t224 = 0 then (if (wrap64 (t223 * t222)) ≥ (wrap64 (t220 + (wrap64 (t223 * t221)))) then (if t223 = 1 then (some true) else (some (decide ((wrap64 ((wrap64 (t223 - 1)) * t222)) < (wrap64 (t220 + (wrap64 ((wrap64 (t223 - 1)) * t221)))))))) else (some false)) else (some true))) = some r := by rw [if_neg (show ¬ (false = true) by decide)] at H; exact H
                clear H
                have H := H1
                clear H1
                by_cases c30 : t232 = 0
                · rw [if_pos c30] at H
                  have c30b0 : (t232 == 0) = true := beq_iff_eq.mpr c30
                  have c30b1 : (t232 != 0) = false := bne_eq_false_iff_eq.mpr c30
                  clear c30
                  by_cases c31 : (wrap64 (t229 + (wrap64 (t231 * t230)))) ≥ (wrap64 (t227 + (wrap64 (t231 * t228))))
                  · rw [if_pos c31] at H
                    have c31b0 : decide ((wrap64 (t227 + (wrap64 (t231 * t228)))) ≤ (wrap64 (t229 + (wrap64 (t231 * t230))))) = true := decide_eq_true c31
                    clear c31
                    exact absurd ((Option.some.inj H).trans hT.out) (by decide)
                  · rw [if_neg c31] at H
                    have c31b0 : decide ((wrap64 (t227 + (wrap64 (t231 * t228)))) ≤ (wrap64 (t229 + (wrap64 (t231 * t230))))) = false := decide_eq_false c31
                    clear c31
                    by_cases c32 : t231 > 0
                    · rw [if_pos c32] at H
                      have c32b0 : decide (0 < t231) = true := decide_eq_true c32
                      clear c32
                      by_cases c33 : (wrap64 (t229 + (wrap64 ((wrap64 (t231 - 1)) * t230)))) < (wrap64 (t227 + (wrap64 ((wrap64 (t231 - 1)) * t228))))
                      · rw [if_pos c33] at H
                        have c33b0 : decide ((wrap64 (t229 + (wrap64 ((wrap64 (t231 - 1)) * t230)))) < (wrap64 (t227 + (wrap64 ((wrap64 (t231 - 1)) * t228))))) = true := decide_eq_true c33
                        clear c33
                        exact absurd ((Option.some.inj H).trans hT.out) (by decide)
                      · rw [if_neg c33] at H
                        have c33b0 : decide ((wrap64 (t229 + (wrap64 ((wrap64 (t231 - 1)) * t230)))) < (wrap64 (t227 + (wrap64 ((wrap64 (t231 - 1)) * t228))))) = false := decide_eq_false c33
                        clear c33
                        by_cases c34 : t224 = 0
                        · rw [if_pos c34] at H
                          have c34b0 : (t224 == 0) = true := beq_iff_eq.mpr c34
                          have c34b1 : (t224 != 0) = false := bne_eq_false_iff_eq.mpr c34
                          clear c34
                          by_cases c35 : (wrap64 (t223 * t222)) ≥ (wrap64 (t220 + (wrap64 (t223 * t221))))
                          · rw [if_pos c35] at H
                            have c35b0 : decide ((wrap64 (t220 + (wrap64 (t223 * t221)))) ≤ (wrap64 (t223 * t222))) = true := decide_eq_true c35
                            clear c35
                            by_cases c36 : t223 = 1
                            · rw [if_pos c36] at H
                              have c36b0 : (t223 == 1) = true := beq_iff_eq.mpr c36
                              have c36b1 : (t223 != 1) = false := bne_eq_false_iff_eq.mpr c36
                              clear c36
                              obtain rfl := Option.some.inj H
                              go_wp2
                              go_ret
                              exact ⟨by first | rfl | (simp [errW_none, errW_some] <;> rfl) | (simp [*, errW_none, errW_some] <;> rfl), by repeat (first | (with_reducible first | exact HB.out | apply below_alloc | apply pw_below_drewN | apply below_drew1) | exact HB.out)⟩
                            · rw [if_neg c36] at H
                              have c36b0 : (t223 == 1) = false := beq_eq_false_iff_ne.mpr c36
                              have c36b1 : (t223 != 1) = true := bne_iff_ne.mpr c36
                              obtain rfl := Option.some.inj H
                              go_wp2
                              go_ret
                              exact ⟨by first | rfl | (simp [errW_none, errW_some] <;> rfl) | (simp [*, errW_none, errW_some] <;> rfl), by repeat (first | (with_reducible first | exact HB.out | apply below_alloc | apply pw_below_drewN | apply below_drew1) | exact HB.out)⟩
                          · rw [if_neg c35] at H
                            have c35b0 : decide ((wrap64 (t220 + (wrap64 (t223 * t221)))) ≤ (wrap64 (t223 * t222))) = false := decide_eq_false c35
                            clear c35
                            exact absurd ((Option.some.inj H).trans hT.out) (by decide)
                        · rw [if_neg c34] at H
                          have c34b0 : (t224 == 0) = false := beq_eq_false_iff_ne.mpr c34
                          have c34b1 : (t224 != 0) = true := bne_iff_ne.mpr c34
                          obtain rfl := Option.some.inj H
                          go_wp2
                          go_ret
                          exact ⟨by first | rfl | (simp [errW_none, errW_some] <;> rfl) | (simp [*, errW_none, errW_some] <;> rfl), by repeat (first | (with_reducible first | exact HB.out | apply below_alloc | apply pw_below_drewN | apply below_drew1) | exact HB.out)⟩
                    · rw [if_neg c32] at H
                      have c32b0 : decide (0 < t231) = false := decide_eq_false c32
                      clear c32
                      by_cases c37 : t224 = 0
                      · rw [if_pos c37] at H
                        have c37b0 : (t224 == 0) = true := beq_iff_eq.mpr c37
                        have c37b1 : (t224 != 0) = false := bne_eq_false_iff_eq.mpr c37
                        clear c37
                        by_cases c38 : (wrap64 (t223 * t222)) ≥ (wrap64 (t220 + (wrap64 (t223 * t221))))
                        · rw [if_pos c38] at H
                          have c38b0 : decide ((wrap64 (t220 + (wrap64 (t223 * t221)))) ≤ (wrap64 (t223 * t222))) = true := decide_eq_true c38
                          clear c38
                          by_cases c39 : t223 = 1
                          · rw [if_pos c39] at H
                            have c39b0 : (t223 == 1) = true := beq_iff_eq.mpr c39
                            have c39b1 : (t223 != 1) = false := bne_eq_false_iff_eq.mpr c39
                            clear c39
                            obtain rfl := Option.some.inj H
                            go_wp2
                            go_ret
                            exact ⟨by first | rfl | (simp [errW_none, errW_some] <;> rfl) | (simp [*, errW_none, errW_some] <;> rfl), by repeat (first | (with_reducible first | exact HB.out | apply below_alloc | apply pw_below_drewN | apply below_drew1) | exact HB.out)⟩
                          · rw [if_neg c39] at H
                            have c39b0 : (t223 == 1) = false := beq_eq_false_iff_ne.mpr c39
                            have c39b1 : (t223 != 1) = true := bne_iff_ne.mpr c39
                            obtain rfl := Option.some.inj H
                            go_wp2
                            go_ret
                            exact ⟨by first | rfl | (simp [errW_none, errW_some] <;> rfl) | (simp [*, errW_none, errW_some] <;> rfl), by repeat (first | (with_reducible first | exact HB.out | apply below_alloc | apply pw_below_drewN | apply below_drew1) | exact HB.out)⟩
                        · rw [if_neg c38] at H
                          have c38b0 : decide ((wrap64 (t220 + (wrap64 (t223 * t221)))) ≤ (wrap64 (t223 * t222))) = false := decide_eq_false c38
                          clear c38
                          exact absurd ((Option.some.inj H).trans hT.out) (by decide)
                      · rw [if_neg c37] at H
                        have c37b0 : (t224 == 0) = false := beq_eq_false_iff_ne.mpr c37
                        have c37b1 : (t224 != 0) = true := bne_iff_ne.mpr c37
                        obtain rfl := Option.some.inj H
                        go_wp2
                        go_ret
                        exact ⟨by first | rfl | (simp [errW_none, errW_some] <;> rfl) | (simp [*, errW_none, errW_some] <;> rfl), by repeat (first | (with_reducible first | exact HB.out | apply below_alloc | apply pw_below_drewN | apply below_drew1) | exact HB.out)⟩
                · rw [if_neg c30] at H
                  have c30b0 : (t232 == 0) = false := beq_eq_false_iff_ne.mpr c30
                  have c30b1 : (t232 != 0) = true := bne_iff_ne.mpr c30
                  by_cases c40 : t224 = 0
                  · rw [if_pos c40] at H
                    have c40b0 : (t224 == 0) = true := beq_iff_eq.mpr c40
                    have c40b1 : (t224 != 0) = false := bne_eq_false_iff_eq.mpr c40
                    clear c40
                    by_cases c41 : (wrap64 (t223 * t222)) ≥ (wrap64 (t220 + (wrap64 (t223 * t221))))
                    · rw [if_pos c41] at H
                      have c41b0 : decide ((wrap64 (t220 + (wrap64 (t223 * t221)))) ≤ (wrap64 (t223 * t222))) = true := decide_eq_true c41
                      clear c41
                      by_cases c42 : t223 = 1
                      · rw [if_pos c42] at H
                        have c42b0 : (t223 == 1) = true := beq_iff_eq.mpr c42
                        have c42b1 : (t223 != 1) = false := bne_eq_false_iff_eq.mpr c42
                        clear c42
                        obtain rfl := Option.some.inj H
                        go_wp2
                        go_ret
                        exact ⟨by first | rfl | (simp [errW_none, errW_some] <;> rfl) | (simp [*, errW_none, errW_some] <;> rfl), by repeat (first | (with_reducible first | exact HB.out | apply below_alloc | apply pw_below_drewN | apply below_drew1) | exact HB.out)⟩
                      · rw [if_neg c42] at H
                        have c42b0 : (t223 == 1) = false := beq_eq_false_iff_ne.mpr c42
                        have c42b1 : (t223 != 1) = true := bne_iff_ne.mpr c42
                        obtain rfl := Option.some.inj H
                        go_wp2
                        go_ret
                        exact ⟨by first | rfl | (simp [errW_none, errW_some] <;> rfl) | (simp [*, errW_none, errW_some] <;> rfl), by repeat (first | (with_reducible first | exact HB.out | apply below_alloc | apply pw_below_drewN | apply below_drew1) | exact HB.out)⟩
                    · rw [if_neg c41] at H
                      have c41b0 : decide ((wrap64 (t220 + (wrap64 (t223 * t221)))) ≤ (wrap64 (t223 * t222))) = false := decide_eq_false c41
                      clear c41
                      exact absurd ((Option.some.inj H).trans hT.out) (by decide)
                  · rw [if_neg c40] at H
                    have c40b0 : (t224 == 0) = false := beq_eq_false_iff_ne.mpr c40
                    have c40b1 : (t224 != 0) = true := bne_iff_ne.mpr c40
                    obtain rfl := Option.some.inj H
                    go_wp2
                    go_ret
                    exact ⟨by first | rfl | (simp [errW_none, errW_some] <;> rfl) | (simp [*, errW_none, errW_some] <;> rfl), by repeat (first | (with_reducible first | exact HB.out | apply below_alloc | apply pw_below_drewN | apply below_drew1) | exact HB.out)⟩

/-- The one pure statement of laws_FnBreakEven. -/
def laws_FnBreakEven.Pure : Prop := ∀ (l0 : List Int), l0.length * 1 ≤ 140737488351232 → (∀ x ∈ l0, (Lit.int .u8 x).wf = true) → ∃ k, laws_FnBreakEven.f k l0 = some true
theorem laws_FnBreakEven.walk (P : laws_FnBreakEven.Pure) (A0 : Option Addr) (c0 : Nat) (l0 : List Int) (w : World) (w0_0 : l0.length * 1 ≤ 140737488351232) (w0_1 : (∀ x ∈ l0, (Lit.int .u8 x).wf = true)) (hr0 : Kd.C (Kd.int .u8) w A0 l0.length l0) (hc0 : l0.length ≤ c0) :
    Calls Try.prog 6 #[.slice A0 l0.length c0] w fun e w' => e = .returned (.bool true) ∧ Below w.heap.size w w' := by
  obtain ⟨k, h⟩ := P l0 w0_0 w0_1
  refine (laws_FnBreakEven.calls k A0 c0 l0 true w ⟨rfl⟩ hr0 hc0 h).mono ?_
  rintro e w' ⟨rfl, hd⟩
  exact ⟨rfl, hd⟩

end Go.Proofs.Ythfgdcnngklfoaa.PFnBreakEven
