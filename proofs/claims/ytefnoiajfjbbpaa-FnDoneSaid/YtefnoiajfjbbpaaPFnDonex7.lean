-- Printed by the session (wip/myprint.py).
import Derived.Test.YtefnoiajfjbbpaaPFnDonex0
import Derived.Test.YtefnoiajfjbbpaaPFnDonex1
import Derived.Test.YtefnoiajfjbbpaaPFnDonex3
import Derived.Test.YtefnoiajfjbbpaaPFnDonex4
import Derived.Test.YtefnoiajfjbbpaaPFnDonex5
import Derived.Test.YtefnoiajfjbbpaaPFnDonex6
namespace Go.Proofs.Ytefnoiajfjbbpaa.PFnDone
open Go.RowKit Go.Proofs.YtefnoiajfjbbpaaW.PrintWords Go.Proofs.YtefnoiajfjbbpaaW.PrintLast Go.Proofs.YtefnoiajfjbbpaaW.PrintMore
attribute [local go_sem] max2_int min2_int max_two min_two max_three min_three max_four min_four   -- for this text's walks alone
set_option linter.unusedVariables false
set_option linter.unusedSimpArgs false

/-! ### laws_likeInts: function 43 -/
def laws_likeInts.l0 : Nat → List Int → List Int → Int → Option (Bool)
  | 0, _, _, _ => none
  | k + 1, x0, x1, x5 => if x5 < (x0.length : Int) then (if 0 ≤ x5 then (if x5 < (x1.length : Int) then (if (rd x0 x5) = (rd x1 x5) then (laws_likeInts.l0 k x0 x1 (wrap64 (x5 + 1))) else (some false)) else (none)) else (none)) else (some true)
def laws_likeInts.f (k : Nat) (l0 : List Int) (l1 : List Int) : Option (Bool) := if (l0.length : Int) = (l1.length : Int) then (laws_likeInts.l0 k l0 l1 0) else (some false)
theorem laws_likeInts.mono_l : ∀ k, (∀ y0 y1 y2, LeO (laws_likeInts.l0 k y0 y1 y2) (laws_likeInts.l0 (k + 1) y0 y1 y2))
  | 0 => fun _ _ _ r h => by simp [laws_likeInts.l0] at h
  | k + 1 => by
    have ih0 := laws_likeInts.mono_l k
    · intro y0 y1 y2
      unfold laws_likeInts.l0
      repeat' first
      | (with_reducible exact ih0 _ _ _)
      | (with_reducible exact LeO.refl _)
      | (with_reducible exact LeO.none _)
      | (with_reducible refine LeO.ite ?_ ?_)
      | (with_reducible refine LeO.bind ?_ (fun _ => ?_))
      | exact ih0 _ _ _
      | exact LeO.none _
      | refine LeO.ite ?_ ?_
      | refine LeO.bind ?_ (fun _ => ?_)
theorem laws_likeInts.mono : ∀ a0 a1 k, LeO (laws_likeInts.f k a0 a1) (laws_likeInts.f (k + 1) a0 a1) := by
  intro a0 a1 k
  have ih0 := laws_likeInts.mono_l k
  unfold laws_likeInts.f
  repeat' first
      | (with_reducible exact ih0 _ _ _)
      | (with_reducible exact LeO.refl _)
      | (with_reducible exact LeO.none _)
      | (with_reducible refine LeO.ite ?_ ?_)
      | (with_reducible refine LeO.bind ?_ (fun _ => ?_))
      | exact ih0 _ _ _
      | exact LeO.none _
      | refine LeO.ite ?_ ?_
      | refine LeO.bind ?_ (fun _ => ?_)
set_option maxHeartbeats 8000000 in
set_option maxRecDepth 100000 in
theorem laws_likeInts.calls (k : Nat) (A0 : Option Addr) (c0 : Nat) (l0 : List Int) (A1 : Option Addr) (c1 : Nat) (l1 : List Int) (r : Bool) (w : World) (hr0 : Kd.C (Kd.int .i64) w A0 l0.length l0) (hc0 : l0.length ≤ c0) (hr1 : Kd.C (Kd.int .i64) w A1 l1.length l1) (hc1 : l1.length ≤ c1) (h : laws_likeInts.f k l0 l1 = some r) :
    Calls Try.prog 43 #[.slice A0 l0.length c0, .slice A1 l1.length c1] w fun e w' => e = .returned (.bool r) ∧ Drawn0 w w' := by
  have HR0 := Aside0.mk hr0
  have HC0 := Aside0.mk hc0
  clear hr0 hc0
  have HR1 := Aside0.mk hr1
  have HC1 := Aside0.mk hc1
  clear hr1 hc1
  have H : (if (l0.length : Int) = (l1.length : Int) then (laws_likeInts.l0 k l0 l1 0) else (some false)) = some r := h
  clear h
  by_cases c3 : (l0.length : Int) = (l1.length : Int)
  · rw [if_pos c3] at H
    have c3b0 : ((l0.length : Int) == (l1.length : Int)) = true := beq_iff_eq.mpr c3
    have c3b1 : ((l0.length : Int) != (l1.length : Int)) = false := bne_eq_false_iff_eq.mpr c3
    have c3b2 : (l0.length == l1.length) = true := by first | simpa using c3 | (simp at c3 ⊢; omega)
    clear c3
    have H' := Aside0.mk H
    clear H
    go_enter Try.func43, Try.ntmps43
    go_wp2
    repeat (go_quiet (fail); try go_wp2)
    go_loopg [5] k (fun kq v5 w' => ∃ (x5_1 : Int), v5 = .int .i64 x5_1 ∧ Aside0 (laws_likeInts.l0 kq l0 l1 x5_1 = some r) ∧ Aside0 (kq ≤ k) ∧ Drawn0 w w')
    case atStart => exact ⟨(0), (by first | rfl | (simp; done) | (simp [*]; done)), H', ⟨Nat.le_refl _⟩, by repeat (first | exact Drawn0.refl _ | apply Drawn0.step)⟩
    case round =>
      clear H'
      try clear c1
      try clear p2
      try clear c3
      try clear c3b0
      try clear c3b1
      try clear c3b2
      obtain ⟨x5_1, rfl, HA, HK1, ⟨m1, rfl⟩⟩ := hrel
      cases gk with
      | zero => exact absurd HA.out (by simp [laws_likeInts.l0])
      | succ k1 =>
        have H := HA.out
        clear HA
        simp only [laws_likeInts.l0] at H
        by_cases c4 : x5_1 < (l0.length : Int)
        · rw [if_pos c4] at H
          have c4b0 : decide (x5_1 < (l0.length : Int)) = true := decide_eq_true c4
          clear c4
          by_cases c5 : 0 ≤ x5_1
          · rw [if_pos c5] at H
            have c5b0 : decide (0 ≤ x5_1) = true := decide_eq_true c5
            clear c5
            by_cases c6 : x5_1 < (l1.length : Int)
            · rw [if_pos c6] at H
              have c6b0 : decide (x5_1 < (l1.length : Int)) = true := decide_eq_true c6
              clear c6
              by_cases c7 : (rd l0 x5_1) = (rd l1 x5_1)
              · rw [if_pos c7] at H
                have c7b0 : ((rd l0 x5_1) == (rd l1 x5_1)) = true := beq_iff_eq.mpr c7
                have c7b1 : ((rd l0 x5_1) != (rd l1 x5_1)) = false := bne_eq_false_iff_eq.mpr c7
                clear c7
                have H' := Aside0.mk H
                clear H
                have p385 : 0 ≤ (x5_1 : Int) := of_decide_eq_true (by first | (with_reducible assumption) | assumption)
                have q385 : x5_1 < (l0.length : Int) := of_decide_eq_true (by first | (with_reducible assumption) | assumption)
                obtain ⟨ad385, e385, hx385_0⟩ := Kd.at_int HR0.out x5_1 p385 q385
                cases e385
                replace p385 := eq_true p385
                replace q385 := eq_true q385
                have p386 : 0 ≤ (x5_1 : Int) := of_decide_eq_true (by first | (with_reducible assumption) | assumption)
                have q386 : x5_1 < (l1.length : Int) := of_decide_eq_true (by first | (with_reducible assumption) | assumption)
                obtain ⟨ad386, e386, hx386_0⟩ := Kd.at_int HR1.out x5_1 p386 q386
                cases e386
                replace p386 := eq_true p386
                replace q386 := eq_true q386
                go_wp2
                repeat (go_quiet (fail); try go_wp2)
                go_roundg k1
                case measure => have := HK1.out; omega
                case rel => exact ⟨(wrap64 (x5_1 + 1)), (by first | rfl | (simp; done) | (simp [*]; done)), H', ⟨by have := HK1.out; omega⟩, by repeat (first | exact Drawn0.refl _ | apply Drawn0.step)⟩
              · rw [if_neg c7] at H
                have c7b0 : ((rd l0 x5_1) == (rd l1 x5_1)) = false := beq_eq_false_iff_ne.mpr c7
                have c7b1 : ((rd l0 x5_1) != (rd l1 x5_1)) = true := bne_iff_ne.mpr c7
                obtain rfl := Option.some.inj H
                have p385 : 0 ≤ (x5_1 : Int) := of_decide_eq_true (by first | (with_reducible assumption) | assumption)
                have q385 : x5_1 < (l0.length : Int) := of_decide_eq_true (by first | (with_reducible assumption) | assumption)
                obtain ⟨ad385, e385, hx385_0⟩ := Kd.at_int HR0.out x5_1 p385 q385
                cases e385
                replace p385 := eq_true p385
                replace q385 := eq_true q385
                have p386 : 0 ≤ (x5_1 : Int) := of_decide_eq_true (by first | (with_reducible assumption) | assumption)
                have q386 : x5_1 < (l1.length : Int) := of_decide_eq_true (by first | (with_reducible assumption) | assumption)
                obtain ⟨ad386, e386, hx386_0⟩ := Kd.at_int HR1.out x5_1 p386 q386
                cases e386
                replace p386 := eq_true p386
                replace q386 := eq_true q386
                go_wp2
                repeat (go_quiet (fail); try go_wp2)
                go_ret
                exact ⟨by first | rfl | (simp; done) | (simp [*]; done), by repeat (first | exact Drawn0.refl _ | apply Drawn0.step)⟩
            · rw [if_neg c6] at H
              exact absurd H (by simp)
          · rw [if_neg c5] at H
            exact absurd H (by simp)
        · rw [if_neg c4] at H
          have c4b0 : decide (x5_1 < (l0.length : Int)) = false := decide_eq_false c4
          clear c4
          obtain rfl := Option.some.inj H
          go_wp2
          repeat (go_quiet (fail); try go_wp2)
          go_ret
          exact ⟨by first | rfl | (simp; done) | (simp [*]; done), by repeat (first | exact Drawn0.refl _ | apply Drawn0.step)⟩
  · rw [if_neg c3] at H
    have c3b0 : ((l0.length : Int) == (l1.length : Int)) = false := beq_eq_false_iff_ne.mpr c3
    have c3b1 : ((l0.length : Int) != (l1.length : Int)) = true := bne_iff_ne.mpr c3
    have c3b2 : (l0.length == l1.length) = false := by first | simpa using c3 | (simp at c3 ⊢; omega)
    obtain rfl := Option.some.inj H
    go_enter Try.func43, Try.ntmps43
    go_wp2
    repeat (go_quiet (fail); try go_wp2)
    go_ret
    exact ⟨by first | rfl | (simp; done) | (simp [*]; done), by repeat (first | exact Drawn0.refl _ | apply Drawn0.step)⟩

/-! ### laws_FnDone: function 5 -/
mutual
def laws_FnDone.j0 : Nat → Int → List (S55) → List Int → Int → Int → Int → Int → Bool → Option (Bool)
  | 0, _, _, _, _, _, _, _, _ => none
  | k + 1, x3, x4, x6, x7, x10, x14, x18, x138 => if x138 = true then (some false) else (if x7 = 0 then (laws_FnDone.j1 k x3 x4 x6 x10 x14 x18 ((x4.length : Int) == 0)) else (laws_FnDone.j1 k x3 x4 x6 x10 x14 x18 true))
def laws_FnDone.j1 : Nat → Int → List (S55) → List Int → Int → Int → Int → Bool → Option (Bool)
  | 0, _, _, _, _, _, _, _ => none
  | k + 1, x3, x4, x6, x10, x14, x18, x145 => if x145 = true then (some true) else (laws_FnDone.l0 k x4 x6 x10 x14 x18 0 (wrap64 (x10 * x3)) 0 0)
def laws_FnDone.l0 : Nat → List (S55) → List Int → Int → Int → Int → Int → Int → Int → Int → Option (Bool)
  | 0, _, _, _, _, _, _, _, _, _ => none
  | k + 1, x4, x6, x10, x14, x18, x22, x23, x24, x25 => if x25 < (x4.length : Int) then (if 0 ≤ x25 then (if x25 < (x6.length : Int) then (if (wrap64 ((rd x6 x25) - ((rd_T55 x4 x25).f2))) > x18 then (some false) else (laws_FnDone.l0 k x4 x6 x10 x14 x18 (mx x22 (rd x6 x25)) (wrap64 (x23 + ((rd_T55 x4 x25).f1))) (wrap64 (x24 + (mx 0 (wrap64 ((rd x6 x25) - ((rd_T55 x4 x25).f2)))))) (wrap64 (x25 + 1)))) else (none)) else (none)) else (if x22 = x23 then (if x24 = x14 then (if x10 ≥ 1 then (some (decide (x10 ≤ (x4.length : Int)))) else (some false)) else (some false)) else (some false))
end
def laws_FnDone.f (k : Nat) (l0 : List Int) : Option (Bool) := (laws_big.f l0).bind fun t387 => (if t387 = true then (some true) else ((spec_DrawDoneTimes.f k l0).bind fun bt388 => ((impl_DoneTimes.f k bt388.1 bt388.2.1 bt388.2.2).bind fun bt395 => ((spec_DoneTimes.f k bt388.1 bt388.2.1 bt388.2.2).bind fun bt399 => ((impl_CountSetups.f k bt388.1 bt388.2.1 bt388.2.2).bind fun bt403 => ((spec_CountSetups.f k bt388.1 bt388.2.1 bt388.2.2).bind fun bt405 => ((impl_TotalTardiness.f k bt388.1 bt388.2.1 bt388.2.2).bind fun bt407 => ((spec_TotalTardiness.f k bt388.1 bt388.2.1 bt388.2.2).bind fun bt409 => ((impl_MostLate.f k bt388.1 bt388.2.1 bt388.2.2).bind fun bt411 => ((spec_MostLate.f k bt388.1 bt388.2.1 bt388.2.2).bind fun bt413 => (if bt395.2 = bt399.2 then ((laws_likeInts.f k bt395.1 bt399.1).bind fun t415 => (if t415 = true then (if bt403.2 = bt405.2 then (if bt403.1 = bt405.1 then (if bt407.2 = bt409.2 then (if bt407.1 = bt409.1 then (if bt411.2 = bt413.2 then (if bt411.1 = bt413.1 then (if bt403.2 = bt395.2 then (laws_FnDone.j0 k bt388.1 bt388.2.1 bt395.1 bt395.2 bt403.1 bt407.1 bt411.1 (bt407.2 != bt395.2)) else (laws_FnDone.j0 k bt388.1 bt388.2.1 bt395.1 bt395.2 bt403.1 bt407.1 bt411.1 true)) else (laws_FnDone.j0 k bt388.1 bt388.2.1 bt395.1 bt395.2 bt403.1 bt407.1 bt411.1 true)) else (laws_FnDone.j0 k bt388.1 bt388.2.1 bt395.1 bt395.2 bt403.1 bt407.1 bt411.1 true)) else (laws_FnDone.j0 k bt388.1 bt388.2.1 bt395.1 bt395.2 bt403.1 bt407.1 bt411.1 true)) else (laws_FnDone.j0 k bt388.1 bt388.2.1 bt395.1 bt395.2 bt403.1 bt407.1 bt411.1 true)) else (laws_FnDone.j0 k bt388.1 bt388.2.1 bt395.1 bt395.2 bt403.1 bt407.1 bt411.1 true)) else (laws_FnDone.j0 k bt388.1 bt388.2.1 bt395.1 bt395.2 bt403.1 bt407.1 bt411.1 true)) else (laws_FnDone.j0 k bt388.1 bt388.2.1 bt395.1 bt395.2 bt403.1 bt407.1 bt411.1 true))) else (laws_FnDone.j0 k bt388.1 bt388.2.1 bt395.1 bt395.2 bt403.1 bt407.1 bt411.1 true))))))))))))
theorem laws_FnDone.mono_l : ∀ k, (∀ y0 y1 y2 y3 y4 y5 y6 y7, LeO (laws_FnDone.j0 k y0 y1 y2 y3 y4 y5 y6 y7) (laws_FnDone.j0 (k + 1) y0 y1 y2 y3 y4 y5 y6 y7)) ∧ (∀ y0 y1 y2 y3 y4 y5 y6, LeO (laws_FnDone.j1 k y0 y1 y2 y3 y4 y5 y6) (laws_FnDone.j1 (k + 1) y0 y1 y2 y3 y4 y5 y6)) ∧ (∀ y0 y1 y2 y3 y4 y5 y6 y7 y8, LeO (laws_FnDone.l0 k y0 y1 y2 y3 y4 y5 y6 y7 y8) (laws_FnDone.l0 (k + 1) y0 y1 y2 y3 y4 y5 y6 y7 y8))
  | 0 => ⟨fun _ _ _ _ _ _ _ _ r h => by simp [laws_FnDone.j0] at h, fun _ _ _ _ _ _ _ r h => by simp [laws_FnDone.j1] at h, fun _ _ _ _ _ _ _ _ _ r h => by simp [laws_FnDone.l0] at h⟩
  | k + 1 => by
    obtain ⟨ih0, ih1, ih2⟩ := laws_FnDone.mono_l k
    refine ⟨?_, ?_, ?_⟩
    · intro y0 y1 y2 y3 y4 y5 y6 y7
      unfold laws_FnDone.j0
      repeat' first
      | (with_reducible exact ih0 _ _ _ _ _ _ _ _)
      | (with_reducible exact ih1 _ _ _ _ _ _ _)
      | (with_reducible exact ih2 _ _ _ _ _ _ _ _ _)
      | (with_reducible exact impl_CountSetups.mono _ _ _ _)
      | (with_reducible exact impl_DoneTimes.mono _ _ _ _)
      | (with_reducible exact impl_MostLate.mono _ _ _ _)
      | (with_reducible exact impl_TotalTardiness.mono _ _ _ _)
      | (with_reducible exact laws_likeInts.mono _ _ _)
      | (with_reducible exact spec_CountSetups.mono _ _ _ _)
      | (with_reducible exact spec_DoneTimes.mono _ _ _ _)
      | (with_reducible exact spec_DrawDoneTimes.mono _ _)
      | (with_reducible exact spec_MostLate.mono _ _ _ _)
      | (with_reducible exact spec_TotalTardiness.mono _ _ _ _)
      | (with_reducible exact LeO.refl _)
      | (with_reducible exact LeO.none _)
      | (with_reducible refine LeO.ite ?_ ?_)
      | (with_reducible refine LeO.bind ?_ (fun _ => ?_))
      | exact ih0 _ _ _ _ _ _ _ _
      | exact ih1 _ _ _ _ _ _ _
      | exact ih2 _ _ _ _ _ _ _ _ _
      | exact impl_CountSetups.mono _ _ _ _
      | exact impl_DoneTimes.mono _ _ _ _
      | exact impl_MostLate.mono _ _ _ _
      | exact impl_TotalTardiness.mono _ _ _ _
      | exact laws_likeInts.mono _ _ _
      | exact spec_CountSetups.mono _ _ _ _
      | exact spec_DoneTimes.mono _ _ _ _
      | exact spec_DrawDoneTimes.mono _ _
      | exact spec_MostLate.mono _ _ _ _
      | exact spec_TotalTardiness.mono _ _ _ _
      | exact LeO.none _
      | refine LeO.ite ?_ ?_
      | refine LeO.bind ?_ (fun _ => ?_)
    · intro y0 y1 y2 y3 y4 y5 y6
      unfold laws_FnDone.j1
      repeat' first
      | (with_reducible exact ih0 _ _ _ _ _ _ _ _)
      | (with_reducible exact ih1 _ _ _ _ _ _ _)
      | (with_reducible exact ih2 _ _ _ _ _ _ _ _ _)
      | (with_reducible exact impl_CountSetups.mono _ _ _ _)
      | (with_reducible exact impl_DoneTimes.mono _ _ _ _)
      | (with_reducible exact impl_MostLate.mono _ _ _ _)
      | (with_reducible exact impl_TotalTardiness.mono _ _ _ _)
      | (with_reducible exact laws_likeInts.mono _ _ _)
      | (with_reducible exact spec_CountSetups.mono _ _ _ _)
      | (with_reducible exact spec_DoneTimes.mono _ _ _ _)
      | (with_reducible exact spec_DrawDoneTimes.mono _ _)
      | (with_reducible exact spec_MostLate.mono _ _ _ _)
      | (with_reducible exact spec_TotalTardiness.mono _ _ _ _)
      | (with_reducible exact LeO.refl _)
      | (with_reducible exact LeO.none _)
      | (with_reducible refine LeO.ite ?_ ?_)
      | (with_reducible refine LeO.bind ?_ (fun _ => ?_))
      | exact ih0 _ _ _ _ _ _ _ _
      | exact ih1 _ _ _ _ _ _ _
      | exact ih2 _ _ _ _ _ _ _ _ _
      | exact impl_CountSetups.mono _ _ _ _
      | exact impl_DoneTimes.mono _ _ _ _
      | exact impl_MostLate.mono _ _ _ _
      | exact impl_TotalTardiness.mono _ _ _ _
      | exact laws_likeInts.mono _ _ _
      | exact spec_CountSetups.mono _ _ _ _
      | exact spec_DoneTimes.mono _ _ _ _
      | exact spec_DrawDoneTimes.mono _ _
      | exact spec_MostLate.mono _ _ _ _
      | exact spec_TotalTardiness.mono _ _ _ _
      | exact LeO.none _
      | refine LeO.ite ?_ ?_
      | refine LeO.bind ?_ (fun _ => ?_)
    · intro y0 y1 y2 y3 y4 y5 y6 y7 y8
      unfold laws_FnDone.l0
      repeat' first
      | (with_reducible exact ih0 _ _ _ _ _ _ _ _)
      | (with_reducible exact ih1 _ _ _ _ _ _ _)
      | (with_reducible exact ih2 _ _ _ _ _ _ _ _ _)
      | (with_reducible exact impl_CountSetups.mono _ _ _ _)
      | (with_reducible exact impl_DoneTimes.mono _ _ _ _)
      | (with_reducible exact impl_MostLate.mono _ _ _ _)
      | (with_reducible exact impl_TotalTardiness.mono _ _ _ _)
      | (with_reducible exact laws_likeInts.mono _ _ _)
      | (with_reducible exact spec_CountSetups.mono _ _ _ _)
      | (with_reducible exact spec_DoneTimes.mono _ _ _ _)
      | (with_reducible exact spec_DrawDoneTimes.mono _ _)
      | (with_reducible exact spec_MostLate.mono _ _ _ _)
      | (with_reducible exact spec_TotalTardiness.mono _ _ _ _)
      | (with_reducible exact LeO.refl _)
      | (with_reducible exact LeO.none _)
      | (with_reducible refine LeO.ite ?_ ?_)
      | (with_reducible refine LeO.bind ?_ (fun _ => ?_))
      | exact ih0 _ _ _ _ _ _ _ _
      | exact ih1 _ _ _ _ _ _ _
      | exact ih2 _ _ _ _ _ _ _ _ _
      | exact impl_CountSetups.mono _ _ _ _
      | exact impl_DoneTimes.mono _ _ _ _
      | exact impl_MostLate.mono _ _ _ _
      | exact impl_TotalTardiness.mono _ _ _ _
      | exact laws_likeInts.mono _ _ _
      | exact spec_CountSetups.mono _ _ _ _
      | exact spec_DoneTimes.mono _ _ _ _
      | exact spec_DrawDoneTimes.mono _ _
      | exact spec_MostLate.mono _ _ _ _
      | exact spec_TotalTardiness.mono _ _ _ _
      | exact LeO.none _
      | refine LeO.ite ?_ ?_
      | refine LeO.bind ?_ (fun _ => ?_)
theorem laws_FnDone.mono : ∀ a0 k, LeO (laws_FnDone.f k a0) (laws_FnDone.f (k + 1) a0) := by
  intro a0 k
  obtain ⟨ih0, ih1, ih2⟩ := laws_FnDone.mono_l k
  unfold laws_FnDone.f
  repeat' first
      | (with_reducible exact ih0 _ _ _ _ _ _ _ _)
      | (with_reducible exact ih1 _ _ _ _ _ _ _)
      | (with_reducible exact ih2 _ _ _ _ _ _ _ _ _)
      | (with_reducible exact impl_CountSetups.mono _ _ _ _)
      | (with_reducible exact impl_DoneTimes.mono _ _ _ _)
      | (with_reducible exact impl_MostLate.mono _ _ _ _)
      | (with_reducible exact impl_TotalTardiness.mono _ _ _ _)
      | (with_reducible exact laws_likeInts.mono _ _ _)
      | (with_reducible exact spec_CountSetups.mono _ _ _ _)
      | (with_reducible exact spec_DoneTimes.mono _ _ _ _)
      | (with_reducible exact spec_DrawDoneTimes.mono _ _)
      | (with_reducible exact spec_MostLate.mono _ _ _ _)
      | (with_reducible exact spec_TotalTardiness.mono _ _ _ _)
      | (with_reducible exact LeO.refl _)
      | (with_reducible exact LeO.none _)
      | (with_reducible refine LeO.ite ?_ ?_)
      | (with_reducible refine LeO.bind ?_ (fun _ => ?_))
      | exact ih0 _ _ _ _ _ _ _ _
      | exact ih1 _ _ _ _ _ _ _
      | exact ih2 _ _ _ _ _ _ _ _ _
      | exact impl_CountSetups.mono _ _ _ _
      | exact impl_DoneTimes.mono _ _ _ _
      | exact impl_MostLate.mono _ _ _ _
      | exact impl_TotalTardiness.mono _ _ _ _
      | exact laws_likeInts.mono _ _ _
      | exact spec_CountSetups.mono _ _ _ _
      | exact spec_DoneTimes.mono _ _ _ _
      | exact spec_DrawDoneTimes.mono _ _
      | exact spec_MostLate.mono _ _ _ _
      | exact spec_TotalTardiness.mono _ _ _ _
      | exact LeO.none _
      | refine LeO.ite ?_ ?_
      | refine LeO.bind ?_ (fun _ => ?_)
set_option maxHeartbeats 8000000 in
set_option maxRecDepth 100000 in
theorem laws_FnDone.calls (k : Nat) (A0 : Option Addr) (c0 : Nat) (l0 : List Int) (r : Bool) (w : World) (hT : Aside0 (r = true)) (hr0 : Kd.C (Kd.int .u8) w A0 l0.length l0) (hc0 : l0.length ≤ c0) (h : laws_FnDone.f k l0 = some r) :
    Calls Try.prog 5 #[.slice A0 l0.length c0] w fun e w' => e = .returned (.bool r) ∧ Below w.heap.size w w' := by
  have HR0 := Aside0.mk hr0
  have HC0 := Aside0.mk hc0
  clear hr0 hc0
  have HB := Aside0.mk (Below.refl w.heap.size w)
  have H : ((laws_big.f l0).bind fun t387 => (if t387 = true then (some true) else ((spec_DrawDoneTimes.f k l0).bind fun bt388 => ((impl_DoneTimes.f k bt388.1 bt388.2.1 bt388.2.2).bind fun bt395 => ((spec_DoneTimes.f k bt388.1 bt388.2.1 bt388.2.2).bind fun bt399 => ((impl_CountSetups.f k bt388.1 bt388.2.1 bt388.2.2).bind fun bt403 => ((spec_CountSetups.f k bt388.1 bt388.2.1 bt388.2.2).bind fun bt405 => ((impl_TotalTardiness.f k bt388.1 bt388.2.1 bt388.2.2).bind fun bt407 => ((spec_TotalTardiness.f k bt388.1 bt388.2.1 bt388.2.2).bind fun bt409 => ((impl_MostLate.f k bt388.1 bt388.2.1 bt388.2.2).bind fun bt411 => ((spec_MostLate.f k bt388.1 bt388.2.1 bt388.2.2).bind fun bt413 => (if bt395.2 = bt399.2 then ((laws_likeInts.f k bt395.1 bt399.1).bind fun t415 => (if t415 = true then (if bt403.2 = bt405.2 then (if bt403.1 = bt405.1 then (if bt407.2 = bt409.2 then (if bt407.1 = bt409.1 then (if bt411.2 = bt413.2 then (if bt411.1 = bt413.1 then (if bt403.2 = bt395.2 then (laws_FnDone.j0 k bt388.1 bt388.2.1 bt395.1 bt395.2 bt403.1 bt407.1 bt411.1 (bt407.2 != bt395.2)) else (laws_FnDone.j0 k bt388.1 bt388.2.1 bt395.1 bt395.2 bt403.1 bt407.1 bt411.1 true)) else (laws_FnDone.j0 k bt388.1 bt388.2.1 bt395.1 bt395.2 bt403.1 bt407.1 bt411.1 true)) else (laws_FnDone.j0 k bt388.1 bt388.2.1 bt395.1 bt395.2 bt403.1 bt407.1 bt411.1 true)) else (laws_FnDone.j0 k bt388.1 bt388.2.1 bt395.1 bt395.2 bt403.1 bt407.1 bt411.1 true)) else (laws_FnDone.j0 k bt388.1 bt388.2.1 bt395.1 bt395.2 bt403.1 bt407.1 bt411.1 true)) else (laws_FnDone.j0 k bt388.1 bt388.2.1 bt395.1 bt395.2 bt403.1 bt407.1 bt411.1 true)) else (laws_FnDone.j0 k bt388.1 bt388.2.1 bt395.1 bt395.2 bt403.1 bt407.1 bt411.1 true)) else (laws_FnDone.j0 k bt388.1 bt388.2.1 bt395.1 bt395.2 bt403.1 bt407.1 bt411.1 true))) else (laws_FnDone.j0 k bt388.1 bt388.2.1 bt395.1 bt395.2 bt403.1 bt407.1 bt411.1 true))))))))))))) = some r := h
  clear h
  replace H := Option.bind_eq_some_iff.mp H
  obtain ⟨t387, A20, H⟩ := H
  replace H : (if t387 = true then (some true) else ((spec_DrawDoneTimes.f k l0).bind fun bt388 => ((impl_DoneTimes.f k bt388.1 bt388.2.1 bt388.2.2).bind fun bt395 => ((spec_DoneTimes.f k bt388.1 bt388.2.1 bt388.2.2).bind fun bt399 => ((impl_CountSetups.f k bt388.1 bt388.2.1 bt388.2.2).bind fun bt403 => ((spec_CountSetups.f k bt388.1 bt388.2.1 bt388.2.2).bind fun bt405 => ((impl_TotalTardiness.f k bt388.1 bt388.2.1 bt388.2.2).bind fun bt407 => ((spec_TotalTardiness.f k bt388.1 bt388.2.1 bt388.2.2).bind fun bt409 => ((impl_MostLate.f k bt388.1 bt388.2.1 bt388.2.2).bind fun bt411 => ((spec_MostLate.f k bt388.1 bt388.2.1 bt388.2.2).bind fun bt413 => (if bt395.2 = bt399.2 then ((laws_likeInts.f k bt395.1 bt399.1).bind fun t415 => (if t415 = true then (if bt403.2 = bt405.2 then (if bt403.1 = bt405.1 then (if bt407.2 = bt409.2 then (if bt407.1 = bt409.1 then (if bt411.2 = bt413.2 then (if bt411.1 = bt413.1 then (if bt403.2 = bt395.2 then (laws_FnDone.j0 k bt388.1 bt388.2.1 bt395.1 bt395.2 bt403.1 bt407.1 bt411.1 (bt407.2 != bt395.2)) else (laws_FnDone.j0 k bt388.1 bt388.2.1 bt395.1 bt395.2 bt403.1 bt407.1 bt411.1 true)) else (laws_FnDone.j0 k bt388.1 bt388.2.1 bt395.1 bt395.2 bt403.1 bt407.1 bt411.1 true)) else (laws_FnDone.j0 k bt388.1 bt388.2.1 bt395.1 bt395.2 bt403.1 bt407.1 bt411.1 true)) else (laws_FnDone.j0 k bt388.1 bt388.2.1 bt395.1 bt395.2 bt403.1 bt407.1 bt411.1 true)) else (laws_FnDone.j0 k bt388.1 bt388.2.1 bt395.1 bt395.2 bt403.1 bt407.1 bt411.1 true)) else (laws_FnDone.j0 k bt388.1 bt388.2.1 bt395.1 bt395.2 bt403.1 bt407.1 bt411.1 true)) else (laws_FnDone.j0 k bt388.1 bt388.2.1 bt395.1 bt395.2 bt403.1 bt407.1 bt411.1 true)) else (laws_FnDone.j0 k bt388.1 bt388.2.1 bt395.1 bt395.2 bt403.1 bt407.1 bt411.1 true))) else (laws_FnDone.j0 k bt388.1 bt388.2.1 bt395.1 bt395.2 bt403.1 bt407.1 bt411.1 true)))))))))))) = some r := H
  have A2 := Aside0.mk A20
  clear A20
  by_cases c3 : t387 = true
  · subst c3
    have H1 : (some true) = some r := by rw [if_pos rfl] at H; exact H
    clear H
    have H := H1
    clear H1
    obtain rfl := Option.some.inj H
    go_enter Try.func5, Try.ntmps5
    go_wp2_with (first | (go_at_call 33; (with_reducible refine (laws_big.calls _ _ l0 true _ ?side1 ?side2 A2.out).mono ?_); (case side1 => repeat (first | exact HR0.out | (with_reducible refine Kd.C_alloc ?_ _) | (with_reducible refine Kd.C_drewN ?_ _) | (with_reducible refine Kd.C_drew ?_))); (case side2 => exact HC0.out); rintro e w' ⟨rfl, ⟨nd, rfl⟩⟩; (try first | exact ⟨rfl, _, World.drewN_drewN _ _ _⟩ | exact ⟨rfl, _, Eq.trans (World.drewN_drewN _ _ _) (congrArg (World.drewN _) (Nat.add_assoc _ _ _))⟩)))
    repeat (go_quiet (first | (go_at_call 33; (with_reducible refine (laws_big.calls _ _ l0 true _ ?side1 ?side2 A2.out).mono ?_); (case side1 => repeat (first | exact HR0.out | (with_reducible refine Kd.C_alloc ?_ _) | (with_reducible refine Kd.C_drewN ?_ _) | (with_reducible refine Kd.C_drew ?_))); (case side2 => exact HC0.out); rintro e w' ⟨rfl, ⟨nd, rfl⟩⟩; (try first | exact ⟨rfl, _, World.drewN_drewN _ _ _⟩ | exact ⟨rfl, _, Eq.trans (World.drewN_drewN _ _ _) (congrArg (World.drewN _) (Nat.add_assoc _ _ _))⟩))); try go_wp2_with (first | (go_at_call 33; (with_reducible refine (laws_big.calls _ _ l0 true _ ?side1 ?side2 A2.out).mono ?_); (case side1 => repeat (first | exact HR0.out | (with_reducible refine Kd.C_alloc ?_ _) | (with_reducible refine Kd.C_drewN ?_ _) | (with_reducible refine Kd.C_drew ?_))); (case side2 => exact HC0.out); rintro e w' ⟨rfl, ⟨nd, rfl⟩⟩; (try first | exact ⟨rfl, _, World.drewN_drewN _ _ _⟩ | exact ⟨rfl, _, Eq.trans (World.drewN_drewN _ _ _) (congrArg (World.drewN _) (Nat.add_assoc _ _ _))⟩))))
    go_ret
    exact ⟨by first | rfl | (simp [errW_none, errW_some] <;> rfl) | (simp [*, errW_none, errW_some] <;> rfl), by repeat (first | (with_reducible first | exact HB.out | apply below_alloc | apply pw_below_drewN | apply below_drew1) | exact HB.out)⟩
  · replace c3 := Bool.eq_false_iff.mpr c3
    subst c3
    have H1 : ((spec_DrawDoneTimes.f k l0).bind fun bt388 => ((impl_DoneTimes.f k bt388.1 bt388.2.1 bt388.2.2).bind fun bt395 => ((spec_DoneTimes.f k bt388.1 bt388.2.1 bt388.2.2).bind fun bt399 => ((impl_CountSetups.f k bt388.1 bt388.2.1 bt388.2.2).bind fun bt403 => ((spec_CountSetups.f k bt388.1 bt388.2.1 bt388.2.2).bind fun bt405 => ((impl_TotalTardiness.f k bt388.1 bt388.2.1 bt388.2.2).bind fun bt407 => ((spec_TotalTardiness.f k bt388.1 bt388.2.1 bt388.2.2).bind fun bt409 => ((impl_MostLate.f k bt388.1 bt388.2.1 bt388.2.2).bind fun bt411 => ((spec_MostLate.f k bt388.1 bt388.2.1 bt388.2.2).bind fun bt413 => (if bt395.2 = bt399.2 then ((laws_likeInts.f k bt395.1 bt399.1).bind fun t415 => (if t415 = true then (if bt403.2 = bt405.2 then (if bt403.1 = bt405.1 then (if bt407.2 = bt409.2 then (if bt407.1 = bt409.1 then (if bt411.2 = bt413.2 then (if bt411.1 = bt413.1 then (if bt403.2 = bt395.2 then (laws_FnDone.j0 k bt388.1 bt388.2.1 bt395.1 bt395.2 bt403.1 bt407.1 bt411.1 (bt407.2 != bt395.2)) else (laws_FnDone.j0 k bt388.1 bt388.2.1 bt395.1 bt395.2 bt403.1 bt407.1 bt411.1 true)) else (laws_FnDone.j0 k bt388.1 bt388.2.1 bt395.1 bt395.2 bt403.1 bt407.1 bt411.1 true)) else (laws_FnDone.j0 k bt388.1 bt388.2.1 bt395.1 bt395.2 bt403.1 bt407.1 bt411.1 true)) else (laws_FnDone.j0 k bt388.1 bt388.2.1 bt395.1 bt395.2 bt403.1 bt407.1 bt411.1 true)) else (laws_FnDone.j0 k bt388.1 bt388.2.1 bt395.1 bt395.2 bt403.1 bt407.1 bt411.1 true)) else (laws_FnDone.j0 k bt388.1 bt388.2.1 bt395.1 bt395.2 bt403.1 bt407.1 bt411.1 true)) else (laws_FnDone.j0 k bt388.1 bt388.2.1 bt395.1 bt395.2 bt403.1 bt407.1 bt411.1 true)) else (laws_FnDone.j0 k bt388.1 bt388.2.1 bt395.1 bt395.2 bt403.1 bt407.1 bt411.1 true))) else (laws_FnDone.j0 k bt388.1 bt388.2.1 bt395.1 bt395.2 bt403.1 bt407.1 bt411.1 true))))))))))) = some r := by rw [if_neg (show ¬ (false = true) by decide)] at H; exact H
    clear H
    have H := H1
    clear H1
    replace H := Option.bind_eq_some_iff.mp H
    obtain ⟨⟨t388, t389, t390⟩, A40, H⟩ := H
    replace H : ((impl_DoneTimes.f k t388 t389 t390).bind fun bt395 => ((spec_DoneTimes.f k t388 t389 t390).bind fun bt399 => ((impl_CountSetups.f k t388 t389 t390).bind fun bt403 => ((spec_CountSetups.f k t388 t389 t390).bind fun bt405 => ((impl_TotalTardiness.f k t388 t389 t390).bind fun bt407 => ((spec_TotalTardiness.f k t388 t389 t390).bind fun bt409 => ((impl_MostLate.f k t388 t389 t390).bind fun bt411 => ((spec_MostLate.f k t388 t389 t390).bind fun bt413 => (if bt395.2 = bt399.2 then ((laws_likeInts.f k bt395.1 bt399.1).bind fun t415 => (if t415 = true then (if bt403.2 = bt405.2 then (if bt403.1 = bt405.1 then (if bt407.2 = bt409.2 then (if bt407.1 = bt409.1 then (if bt411.2 = bt413.2 then (if bt411.1 = bt413.1 then (if bt403.2 = bt395.2 then (laws_FnDone.j0 k t388 t389 bt395.1 bt395.2 bt403.1 bt407.1 bt411.1 (bt407.2 != bt395.2)) else (laws_FnDone.j0 k t388 t389 bt395.1 bt395.2 bt403.1 bt407.1 bt411.1 true)) else (laws_FnDone.j0 k t388 t389 bt395.1 bt395.2 bt403.1 bt407.1 bt411.1 true)) else (laws_FnDone.j0 k t388 t389 bt395.1 bt395.2 bt403.1 bt407.1 bt411.1 true)) else (laws_FnDone.j0 k t388 t389 bt395.1 bt395.2 bt403.1 bt407.1 bt411.1 true)) else (laws_FnDone.j0 k t388 t389 bt395.1 bt395.2 bt403.1 bt407.1 bt411.1 true)) else (laws_FnDone.j0 k t388 t389 bt395.1 bt395.2 bt403.1 bt407.1 bt411.1 true)) else (laws_FnDone.j0 k t388 t389 bt395.1 bt395.2 bt403.1 bt407.1 bt411.1 true)) else (laws_FnDone.j0 k t388 t389 bt395.1 bt395.2 bt403.1 bt407.1 bt411.1 true))) else (laws_FnDone.j0 k t388 t389 bt395.1 bt395.2 bt403.1 bt407.1 bt411.1 true)))))))))) = some r := H
    have A4 := Aside0.mk A40
    clear A40
    replace H := Option.bind_eq_some_iff.mp H
    obtain ⟨⟨t395, t396⟩, A50, H⟩ := H
    replace H : ((spec_DoneTimes.f k t388 t389 t390).bind fun bt399 => ((impl_CountSetups.f k t388 t389 t390).bind fun bt403 => ((spec_CountSetups.f k t388 t389 t390).bind fun bt405 => ((impl_TotalTardiness.f k t388 t389 t390).bind fun bt407 => ((spec_TotalTardiness.f k t388 t389 t390).bind fun bt409 => ((impl_MostLate.f k t388 t389 t390).bind fun bt411 => ((spec_MostLate.f k t388 t389 t390).bind fun bt413 => (if t396 = bt399.2 then ((laws_likeInts.f k t395 bt399.1).bind fun t415 => (if t415 = true then (if bt403.2 = bt405.2 then (if bt403.1 = bt405.1 then (if bt407.2 = bt409.2 then (if bt407.1 = bt409.1 then (if bt411.2 = bt413.2 then (if bt411.1 = bt413.1 then (if bt403.2 = t396 then (laws_FnDone.j0 k t388 t389 t395 t396 bt403.1 bt407.1 bt411.1 (bt407.2 != t396)) else (laws_FnDone.j0 k t388 t389 t395 t396 bt403.1 bt407.1 bt411.1 true)) else (laws_FnDone.j0 k t388 t389 t395 t396 bt403.1 bt407.1 bt411.1 true)) else (laws_FnDone.j0 k t388 t389 t395 t396 bt403.1 bt407.1 bt411.1 true)) else (laws_FnDone.j0 k t388 t389 t395 t396 bt403.1 bt407.1 bt411.1 true)) else (laws_FnDone.j0 k t388 t389 t395 t396 bt403.1 bt407.1 bt411.1 true)) else (laws_FnDone.j0 k t388 t389 t395 t396 bt403.1 bt407.1 bt411.1 true)) else (laws_FnDone.j0 k t388 t389 t395 t396 bt403.1 bt407.1 bt411.1 true)) else (laws_FnDone.j0 k t388 t389 t395 t396 bt403.1 bt407.1 bt411.1 true))) else (laws_FnDone.j0 k t388 t389 t395 t396 bt403.1 bt407.1 bt411.1 true))))))))) = some r := H
    have A5 := Aside0.mk A50
    clear A50
    replace H := Option.bind_eq_some_iff.mp H
    obtain ⟨⟨t399, t400⟩, A60, H⟩ := H
    replace H : ((impl_CountSetups.f k t388 t389 t390).bind fun bt403 => ((spec_CountSetups.f k t388 t389 t390).bind fun bt405 => ((impl_TotalTardiness.f k t388 t389 t390).bind fun bt407 => ((spec_TotalTardiness.f k t388 t389 t390).bind fun bt409 => ((impl_MostLate.f k t388 t389 t390).bind fun bt411 => ((spec_MostLate.f k t388 t389 t390).bind fun bt413 => (if t396 = t400 then ((laws_likeInts.f k t395 t399).bind fun t415 => (if t415 = true then (if bt403.2 = bt405.2 then (if bt403.1 = bt405.1 then (if bt407.2 = bt409.2 then (if bt407.1 = bt409.1 then (if bt411.2 = bt413.2 then (if bt411.1 = bt413.1 then (if bt403.2 = t396 then (laws_FnDone.j0 k t388 t389 t395 t396 bt403.1 bt407.1 bt411.1 (bt407.2 != t396)) else (laws_FnDone.j0 k t388 t389 t395 t396 bt403.1 bt407.1 bt411.1 true)) else (laws_FnDone.j0 k t388 t389 t395 t396 bt403.1 bt407.1 bt411.1 true)) else (laws_FnDone.j0 k t388 t389 t395 t396 bt403.1 bt407.1 bt411.1 true)) else (laws_FnDone.j0 k t388 t389 t395 t396 bt403.1 bt407.1 bt411.1 true)) else (laws_FnDone.j0 k t388 t389 t395 t396 bt403.1 bt407.1 bt411.1 true)) else (laws_FnDone.j0 k t388 t389 t395 t396 bt403.1 bt407.1 bt411.1 true)) else (laws_FnDone.j0 k t388 t389 t395 t396 bt403.1 bt407.1 bt411.1 true)) else (laws_FnDone.j0 k t388 t389 t395 t396 bt403.1 bt407.1 bt411.1 true))) else (laws_FnDone.j0 k t388 t389 t395 t396 bt403.1 bt407.1 bt411.1 true)))))))) = some r := H
    have A6 := Aside0.mk A60
    clear A60
    replace H := Option.bind_eq_some_iff.mp H
    obtain ⟨⟨t403, t404⟩, A70, H⟩ := H
    replace H : ((spec_CountSetups.f k t388 t389 t390).bind fun bt405 => ((impl_TotalTardiness.f k t388 t389 t390).bind fun bt407 => ((spec_TotalTardiness.f k t388 t389 t390).bind fun bt409 => ((impl_MostLate.f k t388 t389 t390).bind fun bt411 => ((spec_MostLate.f k t388 t389 t390).bind fun bt413 => (if t396 = t400 then ((laws_likeInts.f k t395 t399).bind fun t415 => (if t415 = true then (if t404 = bt405.2 then (if t403 = bt405.1 then (if bt407.2 = bt409.2 then (if bt407.1 = bt409.1 then (if bt411.2 = bt413.2 then (if bt411.1 = bt413.1 then (if t404 = t396 then (laws_FnDone.j0 k t388 t389 t395 t396 t403 bt407.1 bt411.1 (bt407.2 != t396)) else (laws_FnDone.j0 k t388 t389 t395 t396 t403 bt407.1 bt411.1 true)) else (laws_FnDone.j0 k t388 t389 t395 t396 t403 bt407.1 bt411.1 true)) else (laws_FnDone.j0 k t388 t389 t395 t396 t403 bt407.1 bt411.1 true)) else (laws_FnDone.j0 k t388 t389 t395 t396 t403 bt407.1 bt411.1 true)) else (laws_FnDone.j0 k t388 t389 t395 t396 t403 bt407.1 bt411.1 true)) else (laws_FnDone.j0 k t388 t389 t395 t396 t403 bt407.1 bt411.1 true)) else (laws_FnDone.j0 k t388 t389 t395 t396 t403 bt407.1 bt411.1 true)) else (laws_FnDone.j0 k t388 t389 t395 t396 t403 bt407.1 bt411.1 true))) else (laws_FnDone.j0 k t388 t389 t395 t396 t403 bt407.1 bt411.1 true))))))) = some r := H
    have A7 := Aside0.mk A70
    clear A70
    replace H := Option.bind_eq_some_iff.mp H
    obtain ⟨⟨t405, t406⟩, A80, H⟩ := H
    replace H : ((impl_TotalTardiness.f k t388 t389 t390).bind fun bt407 => ((spec_TotalTardiness.f k t388 t389 t390).bind fun bt409 => ((impl_MostLate.f k t388 t389 t390).bind fun bt411 => ((spec_MostLate.f k t388 t389 t390).bind fun bt413 => (if t396 = t400 then ((laws_likeInts.f k t395 t399).bind fun t415 => (if t415 = true then (if t404 = t406 then (if t403 = t405 then (if bt407.2 = bt409.2 then (if bt407.1 = bt409.1 then (if bt411.2 = bt413.2 then (if bt411.1 = bt413.1 then (if t404 = t396 then (laws_FnDone.j0 k t388 t389 t395 t396 t403 bt407.1 bt411.1 (bt407.2 != t396)) else (laws_FnDone.j0 k t388 t389 t395 t396 t403 bt407.1 bt411.1 true)) else (laws_FnDone.j0 k t388 t389 t395 t396 t403 bt407.1 bt411.1 true)) else (laws_FnDone.j0 k t388 t389 t395 t396 t403 bt407.1 bt411.1 true)) else (laws_FnDone.j0 k t388 t389 t395 t396 t403 bt407.1 bt411.1 true)) else (laws_FnDone.j0 k t388 t389 t395 t396 t403 bt407.1 bt411.1 true)) else (laws_FnDone.j0 k t388 t389 t395 t396 t403 bt407.1 bt411.1 true)) else (laws_FnDone.j0 k t388 t389 t395 t396 t403 bt407.1 bt411.1 true)) else (laws_FnDone.j0 k t388 t389 t395 t396 t403 bt407.1 bt411.1 true))) else (laws_FnDone.j0 k t388 t389 t395 t396 t403 bt407.1 bt411.1 true)))))) = some r := H
    have A8 := Aside0.mk A80
    clear A80
    replace H := Option.bind_eq_some_iff.mp H
    obtain ⟨⟨t407, t408⟩, A90, H⟩ := H
    replace H : ((spec_TotalTardiness.f k t388 t389 t390).bind fun bt409 => ((impl_MostLate.f k t388 t389 t390).bind fun bt411 => ((spec_MostLate.f k t388 t389 t390).bind fun bt413 => (if t396 = t400 then ((laws_likeInts.f k t395 t399).bind fun t415 => (if t415 = true then (if t404 = t406 then (if t403 = t405 then (if t408 = bt409.2 then (if t407 = bt409.1 then (if bt411.2 = bt413.2 then (if bt411.1 = bt413.1 then (if t404 = t396 then (laws_FnDone.j0 k t388 t389 t395 t396 t403 t407 bt411.1 (t408 != t396)) else (laws_FnDone.j0 k t388 t389 t395 t396 t403 t407 bt411.1 true)) else (laws_FnDone.j0 k t388 t389 t395 t396 t403 t407 bt411.1 true)) else (laws_FnDone.j0 k t388 t389 t395 t396 t403 t407 bt411.1 true)) else (laws_FnDone.j0 k t388 t389 t395 t396 t403 t407 bt411.1 true)) else (laws_FnDone.j0 k t388 t389 t395 t396 t403 t407 bt411.1 true)) else (laws_FnDone.j0 k t388 t389 t395 t396 t403 t407 bt411.1 true)) else (laws_FnDone.j0 k t388 t389 t395 t396 t403 t407 bt411.1 true)) else (laws_FnDone.j0 k t388 t389 t395 t396 t403 t407 bt411.1 true))) else (laws_FnDone.j0 k t388 t389 t395 t396 t403 t407 bt411.1 true))))) = some r := H
    have A9 := Aside0.mk A90
    clear A90
    replace H := Option.bind_eq_some_iff.mp H
    obtain ⟨⟨t409, t410⟩, A100, H⟩ := H
    replace H : ((impl_MostLate.f k t388 t389 t390).bind fun bt411 => ((spec_MostLate.f k t388 t389 t390).bind fun bt413 => (if t396 = t400 then ((laws_likeInts.f k t395 t399).bind fun t415 => (if t415 = true then (if t404 = t406 then (if t403 = t405 then (if t408 = t410 then (if t407 = t409 then (if bt411.2 = bt413.2 then (if bt411.1 = bt413.1 then (if t404 = t396 then (laws_FnDone.j0 k t388 t389 t395 t396 t403 t407 bt411.1 (t408 != t396)) else (laws_FnDone.j0 k t388 t389 t395 t396 t403 t407 bt411.1 true)) else (laws_FnDone.j0 k t388 t389 t395 t396 t403 t407 bt411.1 true)) else (laws_FnDone.j0 k t388 t389 t395 t396 t403 t407 bt411.1 true)) else (laws_FnDone.j0 k t388 t389 t395 t396 t403 t407 bt411.1 true)) else (laws_FnDone.j0 k t388 t389 t395 t396 t403 t407 bt411.1 true)) else (laws_FnDone.j0 k t388 t389 t395 t396 t403 t407 bt411.1 true)) else (laws_FnDone.j0 k t388 t389 t395 t396 t403 t407 bt411.1 true)) else (laws_FnDone.j0 k t388 t389 t395 t396 t403 t407 bt411.1 true))) else (laws_FnDone.j0 k t388 t389 t395 t396 t403 t407 bt411.1 true)))) = some r := H
    have A10 := Aside0.mk A100
    clear A100
    replace H := Option.bind_eq_some_iff.mp H
    obtain ⟨⟨t411, t412⟩, A110, H⟩ := H
    replace H : ((spec_MostLate.f k t388 t389 t390).bind fun bt413 => (if t396 = t400 then ((laws_likeInts.f k t395 t399).bind fun t415 => (if t415 = true then (if t404 = t406 then (if t403 = t405 then (if t408 = t410 then (if t407 = t409 then (if t412 = bt413.2 then (if t411 = bt413.1 then (if t404 = t396 then (laws_FnDone.j0 k t388 t389 t395 t396 t403 t407 t411 (t408 != t396)) else (laws_FnDone.j0 k t388 t389 t395 t396 t403 t407 t411 true)) else (laws_FnDone.j0 k t388 t389 t395 t396 t403 t407 t411 true)) else (laws_FnDone.j0 k t388 t389 t395 t396 t403 t407 t411 true)) else (laws_FnDone.j0 k t388 t389 t395 t396 t403 t407 t411 true)) else (laws_FnDone.j0 k t388 t389 t395 t396 t403 t407 t411 true)) else (laws_FnDone.j0 k t388 t389 t395 t396 t403 t407 t411 true)) else (laws_FnDone.j0 k t388 t389 t395 t396 t403 t407 t411 true)) else (laws_FnDone.j0 k t388 t389 t395 t396 t403 t407 t411 true))) else (laws_FnDone.j0 k t388 t389 t395 t396 t403 t407 t411 true))) = some r := H
    have A11 := Aside0.mk A110
    clear A110
    replace H := Option.bind_eq_some_iff.mp H
    obtain ⟨⟨t413, t414⟩, A120, H⟩ := H
    replace H : (if t396 = t400 then ((laws_likeInts.f k t395 t399).bind fun t415 => (if t415 = true then (if t404 = t406 then (if t403 = t405 then (if t408 = t410 then (if t407 = t409 then (if t412 = t414 then (if t411 = t413 then (if t404 = t396 then (laws_FnDone.j0 k t388 t389 t395 t396 t403 t407 t411 (t408 != t396)) else (laws_FnDone.j0 k t388 t389 t395 t396 t403 t407 t411 true)) else (laws_FnDone.j0 k t388 t389 t395 t396 t403 t407 t411 true)) else (laws_FnDone.j0 k t388 t389 t395 t396 t403 t407 t411 true)) else (laws_FnDone.j0 k t388 t389 t395 t396 t403 t407 t411 true)) else (laws_FnDone.j0 k t388 t389 t395 t396 t403 t407 t411 true)) else (laws_FnDone.j0 k t388 t389 t395 t396 t403 t407 t411 true)) else (laws_FnDone.j0 k t388 t389 t395 t396 t403 t407 t411 true)) else (laws_FnDone.j0 k t388 t389 t395 t396 t403 t407 t411 true))) else (laws_FnDone.j0 k t388 t389 t395 t396 t403 t407 t411 true)) = some r := H
    have A12 := Aside0.mk A120
    clear A120
    have HC13 := Aside0.mk H
    clear H
    go_enter Try.func5, Try.ntmps5
    go_upto_region 12 with (first | (go_at_call 33; (with_reducible refine (laws_big.calls _ _ l0 false _ ?side1 ?side2 A2.out).mono ?_); (case side1 => repeat (first | exact HR0.out | (with_reducible refine Kd.C_alloc ?_ _) | (with_reducible refine Kd.C_drewN ?_ _) | (with_reducible refine Kd.C_drew ?_))); (case side2 => exact HC0.out); rintro e w' ⟨rfl, ⟨nd, rfl⟩⟩; (try first | exact ⟨rfl, _, World.drewN_drewN _ _ _⟩ | exact ⟨rfl, _, Eq.trans (World.drewN_drewN _ _ _) (congrArg (World.drewN _) (Nat.add_assoc _ _ _))⟩)) | (go_at_call 34; (with_reducible refine (spec_DrawDoneTimes.calls k _ _ l0 t388 t389 t390 _ ?side1 ?side2 A4.out).mono ?_); (case side1 => repeat (first | exact HR0.out | (with_reducible refine Kd.C_alloc ?_ _) | (with_reducible refine Kd.C_drewN ?_ _) | (with_reducible refine Kd.C_drew ?_))); (case side2 => exact HC0.out); rintro e w14 ⟨v391, v393, rfl, ho0, ho1, hb⟩; have n0_ := Aside0.mk (Kd.R_lower ho0 (below_size (by repeat (first | (with_reducible first | exact HB.out | apply below_alloc | apply pw_below_drewN | apply below_drew1) | exact HB.out)))); have n1_ := Aside0.mk (Kd.R_lower ho1 (below_size (by repeat (first | (with_reducible first | exact HB.out | apply below_alloc | apply pw_below_drewN | apply below_drew1) | exact HB.out)))); have n2_ := Aside0.mk (below_step (by repeat (first | (with_reducible first | exact HB.out | apply below_alloc | apply pw_below_drewN | apply below_drew1) | exact HB.out)) hb); clear HB; have HO392 := n0_; have HO394 := n1_; have HB := n2_; clear n0_ n1_ n2_; (try clear hb); (try clear hb2); (try clear hk); (try clear hi); (try clear ho0); (try clear ho1); obtain ⟨Ao15, co15, eo15⟩ := Kd.R_slice HO392.out; subst eo15; obtain ⟨Ao16, co16, eo16⟩ := Kd.R_slice HO394.out; subst eo16) | (go_at_call 35; (with_reducible refine (impl_DoneTimes.calls k t388 _ _ t389 _ _ t390 t395 t396 _ ?side1 ?side2 ?side3 ?side4 A5.out).mono ?_); (case side1 => repeat (first | exact (Kd.R_reads' HO392.out).2.2 | (with_reducible refine Kd.C_alloc ?_ _) | (with_reducible refine Kd.C_drewN ?_ _) | (with_reducible refine Kd.C_drew ?_))); (case side2 => exact (Kd.R_reads' HO392.out).2.1); (case side3 => repeat (first | exact (Kd.R_reads' HO394.out).2.2 | (with_reducible refine Kd.C_alloc ?_ _) | (with_reducible refine Kd.C_drewN ?_ _) | (with_reducible refine Kd.C_drew ?_))); (case side4 => exact (Kd.R_reads' HO394.out).2.1); rintro e w17 ⟨v397, rfl, ho0, hb⟩; have n0_ := Aside0.mk (Kd.R_below (by (with_reducible repeat (first | apply Kd.R_alloc | apply Kd.R_drewN | apply Kd.R_drew)); exact HO392.out) hb); have n1_ := Aside0.mk (Kd.R_elder' (by (with_reducible repeat (first | apply Kd.R_alloc | apply Kd.R_drewN | apply Kd.R_drew)); exact HO394.out) (Kd.R_base ho0) hb); have n2_ := Aside0.mk (Kd.R_lower (Kd.R_new' ho0 (Kd.R_lt (by (with_reducible repeat (first | apply Kd.R_alloc | apply Kd.R_drewN | apply Kd.R_drew)); exact HO394.out))) (below_size (by repeat (first | (with_reducible first | exact HB.out | apply below_alloc | apply pw_below_drewN | apply below_drew1) | exact HB.out)))); have n3_ := Aside0.mk (below_step (by repeat (first | (with_reducible first | exact HB.out | apply below_alloc | apply pw_below_drewN | apply below_drew1) | exact HB.out)) hb); clear HO392; clear HO394; clear HB; have HO392 := n0_; have HO394 := n1_; have HO398 := n2_; have HB := n3_; clear n0_ n1_ n2_ n3_; (try clear hb); (try clear hb2); (try clear hk); (try clear hi); (try clear ho0)) | (go_at_call 36; (with_reducible refine (spec_DoneTimes.calls k t388 _ _ t389 _ _ t390 t399 t400 _ ?side1 ?side2 ?side3 ?side4 A6.out).mono ?_); (case side1 => repeat (first | exact (Kd.R_reads' HO392.out).2.2 | (with_reducible refine Kd.C_alloc ?_ _) | (with_reducible refine Kd.C_drewN ?_ _) | (with_reducible refine Kd.C_drew ?_))); (case side2 => exact (Kd.R_reads' HO392.out).2.1); (case side3 => repeat (first | exact (Kd.R_reads' HO394.out).2.2 | (with_reducible refine Kd.C_alloc ?_ _) | (with_reducible refine Kd.C_drewN ?_ _) | (with_reducible refine Kd.C_drew ?_))); (case side4 => exact (Kd.R_reads' HO394.out).2.1); rintro e w18 ⟨v401, rfl, ho0, hb⟩; have n0_ := Aside0.mk (Kd.R_below (by (with_reducible repeat (first | apply Kd.R_alloc | apply Kd.R_drewN | apply Kd.R_drew)); exact HO392.out) hb); have n1_ := Aside0.mk (Kd.R_elder' (by (with_reducible repeat (first | apply Kd.R_alloc | apply Kd.R_drewN | apply Kd.R_drew)); exact HO394.out) (Kd.R_base ho0) hb); have n2_ := Aside0.mk (Kd.R_elder' (by (with_reducible repeat (first | apply Kd.R_alloc | apply Kd.R_drewN | apply Kd.R_drew)); exact HO398.out) (Kd.R_base ho0) hb); have n3_ := Aside0.mk (Kd.R_lower (Kd.R_new' (Kd.R_new' ho0 (Kd.R_lt (by (with_reducible repeat (first | apply Kd.R_alloc | apply Kd.R_drewN | apply Kd.R_drew)); exact HO394.out))) (Kd.R_lt (by (with_reducible repeat (first | apply Kd.R_alloc | apply Kd.R_drewN | apply Kd.R_drew)); exact HO398.out))) (below_size (by repeat (first | (with_reducible first | exact HB.out | apply below_alloc | apply pw_below_drewN | apply below_drew1) | exact HB.out)))); have n4_ := Aside0.mk (below_step (by repeat (first | (with_reducible first | exact HB.out | apply below_alloc | apply pw_below_drewN | apply below_drew1) | exact HB.out)) hb); clear HO392; clear HO394; clear HO398; clear HB; have HO392 := n0_; have HO394 := n1_; have HO398 := n2_; have HO402 := n3_; have HB := n4_; clear n0_ n1_ n2_ n3_ n4_; (try clear hb); (try clear hb2); (try clear hk); (try clear hi); (try clear ho0)) | (go_at_call 37; (with_reducible refine (impl_CountSetups.calls k t388 _ _ t389 _ _ t390 t403 t404 _ ?side1 ?side2 ?side3 ?side4 A7.out).mono ?_); (case side1 => repeat (first | exact (Kd.R_reads' HO392.out).2.2 | (with_reducible refine Kd.C_alloc ?_ _) | (with_reducible refine Kd.C_drewN ?_ _) | (with_reducible refine Kd.C_drew ?_))); (case side2 => exact (Kd.R_reads' HO392.out).2.1); (case side3 => repeat (first | exact (Kd.R_reads' HO394.out).2.2 | (with_reducible refine Kd.C_alloc ?_ _) | (with_reducible refine Kd.C_drewN ?_ _) | (with_reducible refine Kd.C_drew ?_))); (case side4 => exact (Kd.R_reads' HO394.out).2.1); rintro e w19 ⟨rfl, hb⟩; have n0_ := Aside0.mk (Kd.R_below (by (with_reducible repeat (first | apply Kd.R_alloc | apply Kd.R_drewN | apply Kd.R_drew)); exact HO392.out) hb); have n1_ := Aside0.mk (Kd.R_below (by (with_reducible repeat (first | apply Kd.R_alloc | apply Kd.R_drewN | apply Kd.R_drew)); exact HO394.out) hb); have n2_ := Aside0.mk (Kd.R_below (by (with_reducible repeat (first | apply Kd.R_alloc | apply Kd.R_drewN | apply Kd.R_drew)); exact HO398.out) hb); have n3_ := Aside0.mk (Kd.R_below (by (with_reducible repeat (first | apply Kd.R_alloc | apply Kd.R_drewN | apply Kd.R_drew)); exact HO402.out) hb); have n4_ := Aside0.mk (below_step (by repeat (first | (with_reducible first | exact HB.out | apply below_alloc | apply pw_below_drewN | apply below_drew1) | exact HB.out)) hb); clear HO392; clear HO394; clear HO398; clear HO402; clear HB; have HO392 := n0_; have HO394 := n1_; have HO398 := n2_; have HO402 := n3_; have HB := n4_; clear n0_ n1_ n2_ n3_ n4_; (try clear hb); (try clear hb2); (try clear hk); (try clear hi)) | (go_at_call 38; (with_reducible refine (spec_CountSetups.calls k t388 _ _ t389 _ _ t390 t405 t406 _ ?side1 ?side2 ?side3 ?side4 A8.out).mono ?_); (case side1 => repeat (first | exact (Kd.R_reads' HO392.out).2.2 | (with_reducible refine Kd.C_alloc ?_ _) | (with_reducible refine Kd.C_drewN ?_ _) | (with_reducible refine Kd.C_drew ?_))); (case side2 => exact (Kd.R_reads' HO392.out).2.1); (case side3 => repeat (first | exact (Kd.R_reads' HO394.out).2.2 | (with_reducible refine Kd.C_alloc ?_ _) | (with_reducible refine Kd.C_drewN ?_ _) | (with_reducible refine Kd.C_drew ?_))); (case side4 => exact (Kd.R_reads' HO394.out).2.1); rintro e w20 ⟨rfl, hb⟩; have n0_ := Aside0.mk (Kd.R_below (by (with_reducible repeat (first | apply Kd.R_alloc | apply Kd.R_drewN | apply Kd.R_drew)); exact HO392.out) hb); have n1_ := Aside0.mk (Kd.R_below (by (with_reducible repeat (first | apply Kd.R_alloc | apply Kd.R_drewN | apply Kd.R_drew)); exact HO394.out) hb); have n2_ := Aside0.mk (Kd.R_below (by (with_reducible repeat (first | apply Kd.R_alloc | apply Kd.R_drewN | apply Kd.R_drew)); exact HO398.out) hb); have n3_ := Aside0.mk (Kd.R_below (by (with_reducible repeat (first | apply Kd.R_alloc | apply Kd.R_drewN | apply Kd.R_drew)); exact HO402.out) hb); have n4_ := Aside0.mk (below_step (by repeat (first | (with_reducible first | exact HB.out | apply below_alloc | apply pw_below_drewN | apply below_drew1) | exact HB.out)) hb); clear HO392; clear HO394; clear HO398; clear HO402; clear HB; have HO392 := n0_; have HO394 := n1_; have HO398 := n2_; have HO402 := n3_; have HB := n4_; clear n0_ n1_ n2_ n3_ n4_; (try clear hb); (try clear hb2); (try clear hk); (try clear hi)) | (go_at_call 39; (with_reducible refine (impl_TotalTardiness.calls k t388 _ _ t389 _ _ t390 t407 t408 _ ?side1 ?side2 ?side3 ?side4 A9.out).mono ?_); (case side1 => repeat (first | exact (Kd.R_reads' HO392.out).2.2 | (with_reducible refine Kd.C_alloc ?_ _) | (with_reducible refine Kd.C_drewN ?_ _) | (with_reducible refine Kd.C_drew ?_))); (case side2 => exact (Kd.R_reads' HO392.out).2.1); (case side3 => repeat (first | exact (Kd.R_reads' HO394.out).2.2 | (with_reducible refine Kd.C_alloc ?_ _) | (with_reducible refine Kd.C_drewN ?_ _) | (with_reducible refine Kd.C_drew ?_))); (case side4 => exact (Kd.R_reads' HO394.out).2.1); rintro e w21 ⟨rfl, hb⟩; have n0_ := Aside0.mk (Kd.R_below (by (with_reducible repeat (first | apply Kd.R_alloc | apply Kd.R_drewN | apply Kd.R_drew)); exact HO392.out) hb); have n1_ := Aside0.mk (Kd.R_below (by (with_reducible repeat (first | apply Kd.R_alloc | apply Kd.R_drewN | apply Kd.R_drew)); exact HO394.out) hb); have n2_ := Aside0.mk (Kd.R_below (by (with_reducible repeat (first | apply Kd.R_alloc | apply Kd.R_drewN | apply Kd.R_drew)); exact HO398.out) hb); have n3_ := Aside0.mk (Kd.R_below (by (with_reducible repeat (first | apply Kd.R_alloc | apply Kd.R_drewN | apply Kd.R_drew)); exact HO402.out) hb); have n4_ := Aside0.mk (below_step (by repeat (first | (with_reducible first | exact HB.out | apply below_alloc | apply pw_below_drewN | apply below_drew1) | exact HB.out)) hb); clear HO392; clear HO394; clear HO398; clear HO402; clear HB; have HO392 := n0_; have HO394 := n1_; have HO398 := n2_; have HO402 := n3_; have HB := n4_; clear n0_ n1_ n2_ n3_ n4_; (try clear hb); (try clear hb2); (try clear hk); (try clear hi)) | (go_at_call 40; (with_reducible refine (spec_TotalTardiness.calls k t388 _ _ t389 _ _ t390 t409 t410 _ ?side1 ?side2 ?side3 ?side4 A10.out).mono ?_); (case side1 => repeat (first | exact (Kd.R_reads' HO392.out).2.2 | (with_reducible refine Kd.C_alloc ?_ _) | (with_reducible refine Kd.C_drewN ?_ _) | (with_reducible refine Kd.C_drew ?_))); (case side2 => exact (Kd.R_reads' HO392.out).2.1); (case side3 => repeat (first | exact (Kd.R_reads' HO394.out).2.2 | (with_reducible refine Kd.C_alloc ?_ _) | (with_reducible refine Kd.C_drewN ?_ _) | (with_reducible refine Kd.C_drew ?_))); (case side4 => exact (Kd.R_reads' HO394.out).2.1); rintro e w22 ⟨rfl, hb⟩; have n0_ := Aside0.mk (Kd.R_below (by (with_reducible repeat (first | apply Kd.R_alloc | apply Kd.R_drewN | apply Kd.R_drew)); exact HO392.out) hb); have n1_ := Aside0.mk (Kd.R_below (by (with_reducible repeat (first | apply Kd.R_alloc | apply Kd.R_drewN | apply Kd.R_drew)); exact HO394.out) hb); have n2_ := Aside0.mk (Kd.R_below (by (with_reducible repeat (first | apply Kd.R_alloc | apply Kd.R_drewN | apply Kd.R_drew)); exact HO398.out) hb); have n3_ := Aside0.mk (Kd.R_below (by (with_reducible repeat (first | apply Kd.R_alloc | apply Kd.R_drewN | apply Kd.R_drew)); exact HO402.out) hb); have n4_ := Aside0.mk (below_step (by repeat (first | (with_reducible first | exact HB.out | apply below_alloc | apply pw_below_drewN | apply below_drew1) | exact HB.out)) hb); clear HO392; clear HO394; clear HO398; clear HO402; clear HB; have HO392 := n0_; have HO394 := n1_; have HO398 := n2_; have HO402 := n3_; have HB := n4_; clear n0_ n1_ n2_ n3_ n4_; (try clear hb); (try clear hb2); (try clear hk); (try clear hi)) | (go_at_call 41; (with_reducible refine (impl_MostLate.calls k t388 _ _ t389 _ _ t390 t411 t412 _ ?side1 ?side2 ?side3 ?side4 A11.out).mono ?_); (case side1 => repeat (first | exact (Kd.R_reads' HO392.out).2.2 | (with_reducible refine Kd.C_alloc ?_ _) | (with_reducible refine Kd.C_drewN ?_ _) | (with_reducible refine Kd.C_drew ?_))); (case side2 => exact (Kd.R_reads' HO392.out).2.1); (case side3 => repeat (first | exact (Kd.R_reads' HO394.out).2.2 | (with_reducible refine Kd.C_alloc ?_ _) | (with_reducible refine Kd.C_drewN ?_ _) | (with_reducible refine Kd.C_drew ?_))); (case side4 => exact (Kd.R_reads' HO394.out).2.1); rintro e w23 ⟨rfl, hb⟩; have n0_ := Aside0.mk (Kd.R_below (by (with_reducible repeat (first | apply Kd.R_alloc | apply Kd.R_drewN | apply Kd.R_drew)); exact HO392.out) hb); have n1_ := Aside0.mk (Kd.R_below (by (with_reducible repeat (first | apply Kd.R_alloc | apply Kd.R_drewN | apply Kd.R_drew)); exact HO394.out) hb); have n2_ := Aside0.mk (Kd.R_below (by (with_reducible repeat (first | apply Kd.R_alloc | apply Kd.R_drewN | apply Kd.R_drew)); exact HO398.out) hb); have n3_ := Aside0.mk (Kd.R_below (by (with_reducible repeat (first | apply Kd.R_alloc | apply Kd.R_drewN | apply Kd.R_drew)); exact HO402.out) hb); have n4_ := Aside0.mk (below_step (by repeat (first | (with_reducible first | exact HB.out | apply below_alloc | apply pw_below_drewN | apply below_drew1) | exact HB.out)) hb); clear HO392; clear HO394; clear HO398; clear HO402; clear HB; have HO392 := n0_; have HO394 := n1_; have HO398 := n2_; have HO402 := n3_; have HB := n4_; clear n0_ n1_ n2_ n3_ n4_; (try clear hb); (try clear hb2); (try clear hk); (try clear hi)) | (go_at_call 42; (with_reducible refine (spec_MostLate.calls k t388 _ _ t389 _ _ t390 t413 t414 _ ?side1 ?side2 ?side3 ?side4 A12.out).mono ?_); (case side1 => repeat (first | exact (Kd.R_reads' HO392.out).2.2 | (with_reducible refine Kd.C_alloc ?_ _) | (with_reducible refine Kd.C_drewN ?_ _) | (with_reducible refine Kd.C_drew ?_))); (case side2 => exact (Kd.R_reads' HO392.out).2.1); (case side3 => repeat (first | exact (Kd.R_reads' HO394.out).2.2 | (with_reducible refine Kd.C_alloc ?_ _) | (with_reducible refine Kd.C_drewN ?_ _) | (with_reducible refine Kd.C_drew ?_))); (case side4 => exact (Kd.R_reads' HO394.out).2.1); rintro e w24 ⟨rfl, hb⟩; have n0_ := Aside0.mk (Kd.R_below (by (with_reducible repeat (first | apply Kd.R_alloc | apply Kd.R_drewN | apply Kd.R_drew)); exact HO392.out) hb); have n1_ := Aside0.mk (Kd.R_below (by (with_reducible repeat (first | apply Kd.R_alloc | apply Kd.R_drewN | apply Kd.R_drew)); exact HO394.out) hb); have n2_ := Aside0.mk (Kd.R_below (by (with_reducible repeat (first | apply Kd.R_alloc | apply Kd.R_drewN | apply Kd.R_drew)); exact HO398.out) hb); have n3_ := Aside0.mk (Kd.R_below (by (with_reducible repeat (first | apply Kd.R_alloc | apply Kd.R_drewN | apply Kd.R_drew)); exact HO402.out) hb); have n4_ := Aside0.mk (below_step (by repeat (first | (with_reducible first | exact HB.out | apply below_alloc | apply pw_below_drewN | apply below_drew1) | exact HB.out)) hb); clear HO392; clear HO394; clear HO398; clear HO402; clear HB; have HO392 := n0_; have HO394 := n1_; have HO398 := n2_; have HO402 := n3_; have HB := n4_; clear n0_ n1_ n2_ n3_ n4_; (try clear hb); (try clear hb2); (try clear hk); (try clear hi)))
    repeat (go_quiet (first | (go_at_call 33; (with_reducible refine (laws_big.calls _ _ l0 false _ ?side1 ?side2 A2.out).mono ?_); (case side1 => repeat (first | exact HR0.out | (with_reducible refine Kd.C_alloc ?_ _) | (with_reducible refine Kd.C_drewN ?_ _) | (with_reducible refine Kd.C_drew ?_))); (case side2 => exact HC0.out); rintro e w' ⟨rfl, ⟨nd, rfl⟩⟩; (try first | exact ⟨rfl, _, World.drewN_drewN _ _ _⟩ | exact ⟨rfl, _, Eq.trans (World.drewN_drewN _ _ _) (congrArg (World.drewN _) (Nat.add_assoc _ _ _))⟩)) | (go_at_call 34; (with_reducible refine (spec_DrawDoneTimes.calls k _ _ l0 t388 t389 t390 _ ?side1 ?side2 A4.out).mono ?_); (case side1 => repeat (first | exact HR0.out | (with_reducible refine Kd.C_alloc ?_ _) | (with_reducible refine Kd.C_drewN ?_ _) | (with_reducible refine Kd.C_drew ?_))); (case side2 => exact HC0.out); rintro e w14 ⟨v391, v393, rfl, ho0, ho1, hb⟩; have n0_ := Aside0.mk (Kd.R_lower ho0 (below_size (by repeat (first | (with_reducible first | exact HB.out | apply below_alloc | apply pw_below_drewN | apply below_drew1) | exact HB.out)))); have n1_ := Aside0.mk (Kd.R_lower ho1 (below_size (by repeat (first | (with_reducible first | exact HB.out | apply below_alloc | apply pw_below_drewN | apply below_drew1) | exact HB.out)))); have n2_ := Aside0.mk (below_step (by repeat (first | (with_reducible first | exact HB.out | apply below_alloc | apply pw_below_drewN | apply below_drew1) | exact HB.out)) hb); clear HB; have HO392 := n0_; have HO394 := n1_; have HB := n2_; clear n0_ n1_ n2_; (try clear hb); (try clear hb2); (try clear hk); (try clear hi); (try clear ho0); (try clear ho1); obtain ⟨Ao15, co15, eo15⟩ := Kd.R_slice HO392.out; subst eo15; obtain ⟨Ao16, co16, eo16⟩ := Kd.R_slice HO394.out; subst eo16) | (go_at_call 35; (with_reducible refine (impl_DoneTimes.calls k t388 _ _ t389 _ _ t390 t395 t396 _ ?side1 ?side2 ?side3 ?side4 A5.out).mono ?_); (case side1 => repeat (first | exact (Kd.R_reads' HO392.out).2.2 | (with_reducible refine Kd.C_alloc ?_ _) | (with_reducible refine Kd.C_drewN ?_ _) | (with_reducible refine Kd.C_drew ?_))); (case side2 => exact (Kd.R_reads' HO392.out).2.1); (case side3 => repeat (first | exact (Kd.R_reads' HO394.out).2.2 | (with_reducible refine Kd.C_alloc ?_ _) | (with_reducible refine Kd.C_drewN ?_ _) | (with_reducible refine Kd.C_drew ?_))); (case side4 => exact (Kd.R_reads' HO394.out).2.1); rintro e w17 ⟨v397, rfl, ho0, hb⟩; have n0_ := Aside0.mk (Kd.R_below (by (with_reducible repeat (first | apply Kd.R_alloc | apply Kd.R_drewN | apply Kd.R_drew)); exact HO392.out) hb); have n1_ := Aside0.mk (Kd.R_elder' (by (with_reducible repeat (first | apply Kd.R_alloc | apply Kd.R_drewN | apply Kd.R_drew)); exact HO394.out) (Kd.R_base ho0) hb); have n2_ := Aside0.mk (Kd.R_lower (Kd.R_new' ho0 (Kd.R_lt (by (with_reducible repeat (first | apply Kd.R_alloc | apply Kd.R_drewN | apply Kd.R_drew)); exact HO394.out))) (below_size (by repeat (first | (with_reducible first | exact HB.out | apply below_alloc | apply pw_below_drewN | apply below_drew1) | exact HB.out)))); have n3_ := Aside0.mk (below_step (by repeat (first | (with_reducible first | exact HB.out | apply below_alloc | apply pw_below_drewN | apply below_drew1) | exact HB.out)) hb); clear HO392; clear HO394; clear HB; have HO392 := n0_; have HO394 := n1_; have HO398 := n2_; have HB := n3_; clear n0_ n1_ n2_ n3_; (try clear hb); (try clear hb2); (try clear hk); (try clear hi); (try clear ho0)) | (go_at_call 36; (with_reducible refine (spec_DoneTimes.calls k t388 _ _ t389 _ _ t390 t399 t400 _ ?side1 ?side2 ?side3 ?side4 A6.out).mono ?_); (case side1 => repeat (first | exact (Kd.R_reads' HO392.out).2.2 | (with_reducible refine Kd.C_alloc ?_ _) | (with_reducible refine Kd.C_drewN ?_ _) | (with_reducible refine Kd.C_drew ?_))); (case side2 => exact (Kd.R_reads' HO392.out).2.1); (case side3 => repeat (first | exact (Kd.R_reads' HO394.out).2.2 | (with_reducible refine Kd.C_alloc ?_ _) | (with_reducible refine Kd.C_drewN ?_ _) | (with_reducible refine Kd.C_drew ?_))); (case side4 => exact (Kd.R_reads' HO394.out).2.1); rintro e w18 ⟨v401, rfl, ho0, hb⟩; have n0_ := Aside0.mk (Kd.R_below (by (with_reducible repeat (first | apply Kd.R_alloc | apply Kd.R_drewN | apply Kd.R_drew)); exact HO392.out) hb); have n1_ := Aside0.mk (Kd.R_elder' (by (with_reducible repeat (first | apply Kd.R_alloc | apply Kd.R_drewN | apply Kd.R_drew)); exact HO394.out) (Kd.R_base ho0) hb); have n2_ := Aside0.mk (Kd.R_elder' (by (with_reducible repeat (first | apply Kd.R_alloc | apply Kd.R_drewN | apply Kd.R_drew)); exact HO398.out) (Kd.R_base ho0) hb); have n3_ := Aside0.mk (Kd.R_lower (Kd.R_new' (Kd.R_new' ho0 (Kd.R_lt (by (with_reducible repeat (first | apply Kd.R_alloc | apply Kd.R_drewN | apply Kd.R_drew)); exact HO394.out))) (Kd.R_lt (by (with_reducible repeat (first | apply Kd.R_alloc | apply Kd.R_drewN | apply Kd.R_drew)); exact HO398.out))) (below_size (by repeat (first | (with_reducible first | exact HB.out | apply below_alloc | apply pw_below_drewN | apply below_drew1) | exact HB.out)))); have n4_ := Aside0.mk (below_step (by repeat (first | (with_reducible first | exact HB.out | apply below_alloc | apply pw_below_drewN | apply below_drew1) | exact HB.out)) hb); clear HO392; clear HO394; clear HO398; clear HB; have HO392 := n0_; have HO394 := n1_; have HO398 := n2_; have HO402 := n3_; have HB := n4_; clear n0_ n1_ n2_ n3_ n4_; (try clear hb); (try clear hb2); (try clear hk); (try clear hi); (try clear ho0)) | (go_at_call 37; (with_reducible refine (impl_CountSetups.calls k t388 _ _ t389 _ _ t390 t403 t404 _ ?side1 ?side2 ?side3 ?side4 A7.out).mono ?_); (case side1 => repeat (first | exact (Kd.R_reads' HO392.out).2.2 | (with_reducible refine Kd.C_alloc ?_ _) | (with_reducible refine Kd.C_drewN ?_ _) | (with_reducible refine Kd.C_drew ?_))); (case side2 => exact (Kd.R_reads' HO392.out).2.1); (case side3 => repeat (first | exact (Kd.R_reads' HO394.out).2.2 | (with_reducible refine Kd.C_alloc ?_ _) | (with_reducible refine Kd.C_drewN ?_ _) | (with_reducible refine Kd.C_drew ?_))); (case side4 => exact (Kd.R_reads' HO394.out).2.1); rintro e w19 ⟨rfl, hb⟩; have n0_ := Aside0.mk (Kd.R_below (by (with_reducible repeat (first | apply Kd.R_alloc | apply Kd.R_drewN | apply Kd.R_drew)); exact HO392.out) hb); have n1_ := Aside0.mk (Kd.R_below (by (with_reducible repeat (first | apply Kd.R_alloc | apply Kd.R_drewN | apply Kd.R_drew)); exact HO394.out) hb); have n2_ := Aside0.mk (Kd.R_below (by (with_reducible repeat (first | apply Kd.R_alloc | apply Kd.R_drewN | apply Kd.R_drew)); exact HO398.out) hb); have n3_ := Aside0.mk (Kd.R_below (by (with_reducible repeat (first | apply Kd.R_alloc | apply Kd.R_drewN | apply Kd.R_drew)); exact HO402.out) hb); have n4_ := Aside0.mk (below_step (by repeat (first | (with_reducible first | exact HB.out | apply below_alloc | apply pw_below_drewN | apply below_drew1) | exact HB.out)) hb); clear HO392; clear HO394; clear HO398; clear HO402; clear HB; have HO392 := n0_; have HO394 := n1_; have HO398 := n2_; have HO402 := n3_; have HB := n4_; clear n0_ n1_ n2_ n3_ n4_; (try clear hb); (try clear hb2); (try clear hk); (try clear hi)) | (go_at_call 38; (with_reducible refine (spec_CountSetups.calls k t388 _ _ t389 _ _ t390 t405 t406 _ ?side1 ?side2 ?side3 ?side4 A8.out).mono ?_); (case side1 => repeat (first | exact (Kd.R_reads' HO392.out).2.2 | (with_reducible refine Kd.C_alloc ?_ _) | (with_reducible refine Kd.C_drewN ?_ _) | (with_reducible refine Kd.C_drew ?_))); (case side2 => exact (Kd.R_reads' HO392.out).2.1); (case side3 => repeat (first | exact (Kd.R_reads' HO394.out).2.2 | (with_reducible refine Kd.C_alloc ?_ _) | (with_reducible refine Kd.C_drewN ?_ _) | (with_reducible refine Kd.C_drew ?_))); (case side4 => exact (Kd.R_reads' HO394.out).2.1); rintro e w20 ⟨rfl, hb⟩; have n0_ := Aside0.mk (Kd.R_below (by (with_reducible repeat (first | apply Kd.R_alloc | apply Kd.R_drewN | apply Kd.R_drew)); exact HO392.out) hb); have n1_ := Aside0.mk (Kd.R_below (by (with_reducible repeat (first | apply Kd.R_alloc | apply Kd.R_drewN | apply Kd.R_drew)); exact HO394.out) hb); have n2_ := Aside0.mk (Kd.R_below (by (with_reducible repeat (first | apply Kd.R_alloc | apply Kd.R_drewN | apply Kd.R_drew)); exact HO398.out) hb); have n3_ := Aside0.mk (Kd.R_below (by (with_reducible repeat (first | apply Kd.R_alloc | apply Kd.R_drewN | apply Kd.R_drew)); exact HO402.out) hb); have n4_ := Aside0.mk (below_step (by repeat (first | (with_reducible first | exact HB.out | apply below_alloc | apply pw_below_drewN | apply below_drew1) | exact HB.out)) hb); clear HO392; clear HO394; clear HO398; clear HO402; clear HB; have HO392 := n0_; have HO394 := n1_; have HO398 := n2_; have HO402 := n3_; have HB := n4_; clear n0_ n1_ n2_ n3_ n4_; (try clear hb); (try clear hb2); (try clear hk); (try clear hi)) | (go_at_call 39; (with_reducible refine (impl_TotalTardiness.calls k t388 _ _ t389 _ _ t390 t407 t408 _ ?side1 ?side2 ?side3 ?side4 A9.out).mono ?_); (case side1 => repeat (first | exact (Kd.R_reads' HO392.out).2.2 | (with_reducible refine Kd.C_alloc ?_ _) | (with_reducible refine Kd.C_drewN ?_ _) | (with_reducible refine Kd.C_drew ?_))); (case side2 => exact (Kd.R_reads' HO392.out).2.1); (case side3 => repeat (first | exact (Kd.R_reads' HO394.out).2.2 | (with_reducible refine Kd.C_alloc ?_ _) | (with_reducible refine Kd.C_drewN ?_ _) | (with_reducible refine Kd.C_drew ?_))); (case side4 => exact (Kd.R_reads' HO394.out).2.1); rintro e w21 ⟨rfl, hb⟩; have n0_ := Aside0.mk (Kd.R_below (by (with_reducible repeat (first | apply Kd.R_alloc | apply Kd.R_drewN | apply Kd.R_drew)); exact HO392.out) hb); have n1_ := Aside0.mk (Kd.R_below (by (with_reducible repeat (first | apply Kd.R_alloc | apply Kd.R_drewN | apply Kd.R_drew)); exact HO394.out) hb); have n2_ := Aside0.mk (Kd.R_below (by (with_reducible repeat (first | apply Kd.R_alloc | apply Kd.R_drewN | apply Kd.R_drew)); exact HO398.out) hb); have n3_ := Aside0.mk (Kd.R_below (by (with_reducible repeat (first | apply Kd.R_alloc | apply Kd.R_drewN | apply Kd.R_drew)); exact HO402.out) hb); have n4_ := Aside0.mk (below_step (by repeat (first | (with_reducible first | exact HB.out | apply below_alloc | apply pw_below_drewN | apply below_drew1) | exact HB.out)) hb); clear HO392; clear HO394; clear HO398; clear HO402; clear HB; have HO392 := n0_; have HO394 := n1_; have HO398 := n2_; have HO402 := n3_; have HB := n4_; clear n0_ n1_ n2_ n3_ n4_; (try clear hb); (try clear hb2); (try clear hk); (try clear hi)) | (go_at_call 40; (with_reducible refine (spec_TotalTardiness.calls k t388 _ _ t389 _ _ t390 t409 t410 _ ?side1 ?side2 ?side3 ?side4 A10.out).mono ?_); (case side1 => repeat (first | exact (Kd.R_reads' HO392.out).2.2 | (with_reducible refine Kd.C_alloc ?_ _) | (with_reducible refine Kd.C_drewN ?_ _) | (with_reducible refine Kd.C_drew ?_))); (case side2 => exact (Kd.R_reads' HO392.out).2.1); (case side3 => repeat (first | exact (Kd.R_reads' HO394.out).2.2 | (with_reducible refine Kd.C_alloc ?_ _) | (with_reducible refine Kd.C_drewN ?_ _) | (with_reducible refine Kd.C_drew ?_))); (case side4 => exact (Kd.R_reads' HO394.out).2.1); rintro e w22 ⟨rfl, hb⟩; have n0_ := Aside0.mk (Kd.R_below (by (with_reducible repeat (first | apply Kd.R_alloc | apply Kd.R_drewN | apply Kd.R_drew)); exact HO392.out) hb); have n1_ := Aside0.mk (Kd.R_below (by (with_reducible repeat (first | apply Kd.R_alloc | apply Kd.R_drewN | apply Kd.R_drew)); exact HO394.out) hb); have n2_ := Aside0.mk (Kd.R_below (by (with_reducible repeat (first | apply Kd.R_alloc | apply Kd.R_drewN | apply Kd.R_drew)); exact HO398.out) hb); have n3_ := Aside0.mk (Kd.R_below (by (with_reducible repeat (first | apply Kd.R_alloc | apply Kd.R_drewN | apply Kd.R_drew)); exact HO402.out) hb); have n4_ := Aside0.mk (below_step (by repeat (first | (with_reducible first | exact HB.out | apply below_alloc | apply pw_below_drewN | apply below_drew1) | exact HB.out)) hb); clear HO392; clear HO394; clear HO398; clear HO402; clear HB; have HO392 := n0_; have HO394 := n1_; have HO398 := n2_; have HO402 := n3_; have HB := n4_; clear n0_ n1_ n2_ n3_ n4_; (try clear hb); (try clear hb2); (try clear hk); (try clear hi)) | (go_at_call 41; (with_reducible refine (impl_MostLate.calls k t388 _ _ t389 _ _ t390 t411 t412 _ ?side1 ?side2 ?side3 ?side4 A11.out).mono ?_); (case side1 => repeat (first | exact (Kd.R_reads' HO392.out).2.2 | (with_reducible refine Kd.C_alloc ?_ _) | (with_reducible refine Kd.C_drewN ?_ _) | (with_reducible refine Kd.C_drew ?_))); (case side2 => exact (Kd.R_reads' HO392.out).2.1); (case side3 => repeat (first | exact (Kd.R_reads' HO394.out).2.2 | (with_reducible refine Kd.C_alloc ?_ _) | (with_reducible refine Kd.C_drewN ?_ _) | (with_reducible refine Kd.C_drew ?_))); (case side4 => exact (Kd.R_reads' HO394.out).2.1); rintro e w23 ⟨rfl, hb⟩; have n0_ := Aside0.mk (Kd.R_below (by (with_reducible repeat (first | apply Kd.R_alloc | apply Kd.R_drewN | apply Kd.R_drew)); exact HO392.out) hb); have n1_ := Aside0.mk (Kd.R_below (by (with_reducible repeat (first | apply Kd.R_alloc | apply Kd.R_drewN | apply Kd.R_drew)); exact HO394.out) hb); have n2_ := Aside0.mk (Kd.R_below (by (with_reducible repeat (first | apply Kd.R_alloc | apply Kd.R_drewN | apply Kd.R_drew)); exact HO398.out) hb); have n3_ := Aside0.mk (Kd.R_below (by (with_reducible repeat (first | apply Kd.R_alloc | apply Kd.R_drewN | apply Kd.R_drew)); exact HO402.out) hb); have n4_ := Aside0.mk (below_step (by repeat (first | (with_reducible first | exact HB.out | apply below_alloc | apply pw_below_drewN | apply below_drew1) | exact HB.out)) hb); clear HO392; clear HO394; clear HO398; clear HO402; clear HB; have HO392 := n0_; have HO394 := n1_; have HO398 := n2_; have HO402 := n3_; have HB := n4_; clear n0_ n1_ n2_ n3_ n4_; (try clear hb); (try clear hb2); (try clear hk); (try clear hi)) | (go_at_call 42; (with_reducible refine (spec_MostLate.calls k t388 _ _ t389 _ _ t390 t413 t414 _ ?side1 ?side2 ?side3 ?side4 A12.out).mono ?_); (case side1 => repeat (first | exact (Kd.R_reads' HO392.out).2.2 | (with_reducible refine Kd.C_alloc ?_ _) | (with_reducible refine Kd.C_drewN ?_ _) | (with_reducible refine Kd.C_drew ?_))); (case side2 => exact (Kd.R_reads' HO392.out).2.1); (case side3 => repeat (first | exact (Kd.R_reads' HO394.out).2.2 | (with_reducible refine Kd.C_alloc ?_ _) | (with_reducible refine Kd.C_drewN ?_ _) | (with_reducible refine Kd.C_drew ?_))); (case side4 => exact (Kd.R_reads' HO394.out).2.1); rintro e w24 ⟨rfl, hb⟩; have n0_ := Aside0.mk (Kd.R_below (by (with_reducible repeat (first | apply Kd.R_alloc | apply Kd.R_drewN | apply Kd.R_drew)); exact HO392.out) hb); have n1_ := Aside0.mk (Kd.R_below (by (with_reducible repeat (first | apply Kd.R_alloc | apply Kd.R_drewN | apply Kd.R_drew)); exact HO394.out) hb); have n2_ := Aside0.mk (Kd.R_below (by (with_reducible repeat (first | apply Kd.R_alloc | apply Kd.R_drewN | apply Kd.R_drew)); exact HO398.out) hb); have n3_ := Aside0.mk (Kd.R_below (by (with_reducible repeat (first | apply Kd.R_alloc | apply Kd.R_drewN | apply Kd.R_drew)); exact HO402.out) hb); have n4_ := Aside0.mk (below_step (by repeat (first | (with_reducible first | exact HB.out | apply below_alloc | apply pw_below_drewN | apply below_drew1) | exact HB.out)) hb); clear HO392; clear HO394; clear HO398; clear HO402; clear HB; have HO392 := n0_; have HO394 := n1_; have HO398 := n2_; have HO402 := n3_; have HB := n4_; clear n0_ n1_ n2_ n3_ n4_; (try clear hb); (try clear hb2); (try clear hk); (try clear hi))); go_upto_region 12 with (first | (go_at_call 33; (with_reducible refine (laws_big.calls _ _ l0 false _ ?side1 ?side2 A2.out).mono ?_); (case side1 => repeat (first | exact HR0.out | (with_reducible refine Kd.C_alloc ?_ _) | (with_reducible refine Kd.C_drewN ?_ _) | (with_reducible refine Kd.C_drew ?_))); (case side2 => exact HC0.out); rintro e w' ⟨rfl, ⟨nd, rfl⟩⟩; (try first | exact ⟨rfl, _, World.drewN_drewN _ _ _⟩ | exact ⟨rfl, _, Eq.trans (World.drewN_drewN _ _ _) (congrArg (World.drewN _) (Nat.add_assoc _ _ _))⟩)) | (go_at_call 34; (with_reducible refine (spec_DrawDoneTimes.calls k _ _ l0 t388 t389 t390 _ ?side1 ?side2 A4.out).mono ?_); (case side1 => repeat (first | exact HR0.out | (with_reducible refine Kd.C_alloc ?_ _) | (with_reducible refine Kd.C_drewN ?_ _) | (with_reducible refine Kd.C_drew ?_))); (case side2 => exact HC0.out); rintro e w14 ⟨v391, v393, rfl, ho0, ho1, hb⟩; have n0_ := Aside0.mk (Kd.R_lower ho0 (below_size (by repeat (first | (with_reducible first | exact HB.out | apply below_alloc | apply pw_below_drewN | apply below_drew1) | exact HB.out)))); have n1_ := Aside0.mk (Kd.R_lower ho1 (below_size (by repeat (first | (with_reducible first | exact HB.out | apply below_alloc | apply pw_below_drewN | apply below_drew1) | exact HB.out)))); have n2_ := Aside0.mk (below_step (by repeat (first | (with_reducible first | exact HB.out | apply below_alloc | apply pw_below_drewN | apply below_drew1) | exact HB.out)) hb); clear HB; have HO392 := n0_; have HO394 := n1_; have HB := n2_; clear n0_ n1_ n2_; (try clear hb); (try clear hb2); (try clear hk); (try clear hi); (try clear ho0); (try clear ho1); obtain ⟨Ao15, co15, eo15⟩ := Kd.R_slice HO392.out; subst eo15; obtain ⟨Ao16, co16, eo16⟩ := Kd.R_slice HO394.out; subst eo16) | (go_at_call 35; (with_reducible refine (impl_DoneTimes.calls k t388 _ _ t389 _ _ t390 t395 t396 _ ?side1 ?side2 ?side3 ?side4 A5.out).mono ?_); (case side1 => repeat (first | exact (Kd.R_reads' HO392.out).2.2 | (with_reducible refine Kd.C_alloc ?_ _) | (with_reducible refine Kd.C_drewN ?_ _) | (with_reducible refine Kd.C_drew ?_))); (case side2 => exact (Kd.R_reads' HO392.out).2.1); (case side3 => repeat (first | exact (Kd.R_reads' HO394.out).2.2 | (with_reducible refine Kd.C_alloc ?_ _) | (with_reducible refine Kd.C_drewN ?_ _) | (with_reducible refine Kd.C_drew ?_))); (case side4 => exact (Kd.R_reads' HO394.out).2.1); rintro e w17 ⟨v397, rfl, ho0, hb⟩; have n0_ := Aside0.mk (Kd.R_below (by (with_reducible repeat (first | apply Kd.R_alloc | apply Kd.R_drewN | apply Kd.R_drew)); exact HO392.out) hb); have n1_ := Aside0.mk (Kd.R_elder' (by (with_reducible repeat (first | apply Kd.R_alloc | apply Kd.R_drewN | apply Kd.R_drew)); exact HO394.out) (Kd.R_base ho0) hb); have n2_ := Aside0.mk (Kd.R_lower (Kd.R_new' ho0 (Kd.R_lt (by (with_reducible repeat (first | apply Kd.R_alloc | apply Kd.R_drewN | apply Kd.R_drew)); exact HO394.out))) (below_size (by repeat (first | (with_reducible first | exact HB.out | apply below_alloc | apply pw_below_drewN | apply below_drew1) | exact HB.out)))); have n3_ := Aside0.mk (below_step (by repeat (first | (with_reducible first | exact HB.out | apply below_alloc | apply pw_below_drewN | apply below_drew1) | exact HB.out)) hb); clear HO392; clear HO394; clear HB; have HO392 := n0_; have HO394 := n1_; have HO398 := n2_; have HB := n3_; clear n0_ n1_ n2_ n3_; (try clear hb); (try clear hb2); (try clear hk); (try clear hi); (try clear ho0)) | (go_at_call 36; (with_reducible refine (spec_DoneTimes.calls k t388 _ _ t389 _ _ t390 t399 t400 _ ?side1 ?side2 ?side3 ?side4 A6.out).mono ?_); (case side1 => repeat (first | exact (Kd.R_reads' HO392.out).2.2 | (with_reducible refine Kd.C_alloc ?_ _) | (with_reducible refine Kd.C_drewN ?_ _) | (with_reducible refine Kd.C_drew ?_))); (case side2 => exact (Kd.R_reads' HO392.out).2.1); (case side3 => repeat (first | exact (Kd.R_reads' HO394.out).2.2 | (with_reducible refine Kd.C_alloc ?_ _) | (with_reducible refine Kd.C_drewN ?_ _) | (with_reducible refine Kd.C_drew ?_))); (case side4 => exact (Kd.R_reads' HO394.out).2.1); rintro e w18 ⟨v401, rfl, ho0, hb⟩; have n0_ := Aside0.mk (Kd.R_below (by (with_reducible repeat (first | apply Kd.R_alloc | apply Kd.R_drewN | apply Kd.R_drew)); exact HO392.out) hb); have n1_ := Aside0.mk (Kd.R_elder' (by (with_reducible repeat (first | apply Kd.R_alloc | apply Kd.R_drewN | apply Kd.R_drew)); exact HO394.out) (Kd.R_base ho0) hb); have n2_ := Aside0.mk (Kd.R_elder' (by (with_reducible repeat (first | apply Kd.R_alloc | apply Kd.R_drewN | apply Kd.R_drew)); exact HO398.out) (Kd.R_base ho0) hb); have n3_ := Aside0.mk (Kd.R_lower (Kd.R_new' (Kd.R_new' ho0 (Kd.R_lt (by (with_reducible repeat (first | apply Kd.R_alloc | apply Kd.R_drewN | apply Kd.R_drew)); exact HO394.out))) (Kd.R_lt (by (with_reducible repeat (first | apply Kd.R_alloc | apply Kd.R_drewN | apply Kd.R_drew)); exact HO398.out))) (below_size (by repeat (first | (with_reducible first | exact HB.out | apply below_alloc | apply pw_below_drewN | apply below_drew1) | exact HB.out)))); have n4_ := Aside0.mk (below_step (by repeat (first | (with_reducible first | exact HB.out | apply below_alloc | apply pw_below_drewN | apply below_drew1) | exact HB.out)) hb); clear HO392; clear HO394; clear HO398; clear HB; have HO392 := n0_; have HO394 := n1_; have HO398 := n2_; have HO402 := n3_; have HB := n4_; clear n0_ n1_ n2_ n3_ n4_; (try clear hb); (try clear hb2); (try clear hk); (try clear hi); (try clear ho0)) | (go_at_call 37; (with_reducible refine (impl_CountSetups.calls k t388 _ _ t389 _ _ t390 t403 t404 _ ?side1 ?side2 ?side3 ?side4 A7.out).mono ?_); (case side1 => repeat (first | exact (Kd.R_reads' HO392.out).2.2 | (with_reducible refine Kd.C_alloc ?_ _) | (with_reducible refine Kd.C_drewN ?_ _) | (with_reducible refine Kd.C_drew ?_))); (case side2 => exact (Kd.R_reads' HO392.out).2.1); (case side3 => repeat (first | exact (Kd.R_reads' HO394.out).2.2 | (with_reducible refine Kd.C_alloc ?_ _) | (with_reducible refine Kd.C_drewN ?_ _) | (with_reducible refine Kd.C_drew ?_))); (case side4 => exact (Kd.R_reads' HO394.out).2.1); rintro e w19 ⟨rfl, hb⟩; have n0_ := Aside0.mk (Kd.R_below (by (with_reducible repeat (first | apply Kd.R_alloc | apply Kd.R_drewN | apply Kd.R_drew)); exact HO392.out) hb); have n1_ := Aside0.mk (Kd.R_below (by (with_reducible repeat (first | apply Kd.R_alloc | apply Kd.R_drewN | apply Kd.R_drew)); exact HO394.out) hb); have n2_ := Aside0.mk (Kd.R_below (by (with_reducible repeat (first | apply Kd.R_alloc | apply Kd.R_drewN | apply Kd.R_drew)); exact HO398.out) hb); have n3_ := Aside0.mk (Kd.R_below (by (with_reducible repeat (first | apply Kd.R_alloc | apply Kd.R_drewN | apply Kd.R_drew)); exact HO402.out) hb); have n4_ := Aside0.mk (below_step (by repeat (first | (with_reducible first | exact HB.out | apply below_alloc | apply pw_below_drewN | apply below_drew1) | exact HB.out)) hb); clear HO392; clear HO394; clear HO398; clear HO402; clear HB; have HO392 := n0_; have HO394 := n1_; have HO398 := n2_; have HO402 := n3_; have HB := n4_; clear n0_ n1_ n2_ n3_ n4_; (try clear hb); (try clear hb2); (try clear hk); (try clear hi)) | (go_at_call 38; (with_reducible refine (spec_CountSetups.calls k t388 _ _ t389 _ _ t390 t405 t406 _ ?side1 ?side2 ?side3 ?side4 A8.out).mono ?_); (case side1 => repeat (first | exact (Kd.R_reads' HO392.out).2.2 | (with_reducible refine Kd.C_alloc ?_ _) | (with_reducible refine Kd.C_drewN ?_ _) | (with_reducible refine Kd.C_drew ?_))); (case side2 => exact (Kd.R_reads' HO392.out).2.1); (case side3 => repeat (first | exact (Kd.R_reads' HO394.out).2.2 | (with_reducible refine Kd.C_alloc ?_ _) | (with_reducible refine Kd.C_drewN ?_ _) | (with_reducible refine Kd.C_drew ?_))); (case side4 => exact (Kd.R_reads' HO394.out).2.1); rintro e w20 ⟨rfl, hb⟩; have n0_ := Aside0.mk (Kd.R_below (by (with_reducible repeat (first | apply Kd.R_alloc | apply Kd.R_drewN | apply Kd.R_drew)); exact HO392.out) hb); have n1_ := Aside0.mk (Kd.R_below (by (with_reducible repeat (first | apply Kd.R_alloc | apply Kd.R_drewN | apply Kd.R_drew)); exact HO394.out) hb); have n2_ := Aside0.mk (Kd.R_below (by (with_reducible repeat (first | apply Kd.R_alloc | apply Kd.R_drewN | apply Kd.R_drew)); exact HO398.out) hb); have n3_ := Aside0.mk (Kd.R_below (by (with_reducible repeat (first | apply Kd.R_alloc | apply Kd.R_drewN | apply Kd.R_drew)); exact HO402.out) hb); have n4_ := Aside0.mk (below_step (by repeat (first | (with_reducible first | exact HB.out | apply below_alloc | apply pw_below_drewN | apply below_drew1) | exact HB.out)) hb); clear HO392; clear HO394; clear HO398; clear HO402; clear HB; have HO392 := n0_; have HO394 := n1_; have HO398 := n2_; have HO402 := n3_; have HB := n4_; clear n0_ n1_ n2_ n3_ n4_; (try clear hb); (try clear hb2); (try clear hk); (try clear hi)) | (go_at_call 39; (with_reducible refine (impl_TotalTardiness.calls k t388 _ _ t389 _ _ t390 t407 t408 _ ?side1 ?side2 ?side3 ?side4 A9.out).mono ?_); (case side1 => repeat (first | exact (Kd.R_reads' HO392.out).2.2 | (with_reducible refine Kd.C_alloc ?_ _) | (with_reducible refine Kd.C_drewN ?_ _) | (with_reducible refine Kd.C_drew ?_))); (case side2 => exact (Kd.R_reads' HO392.out).2.1); (case side3 => repeat (first | exact (Kd.R_reads' HO394.out).2.2 | (with_reducible refine Kd.C_alloc ?_ _) | (with_reducible refine Kd.C_drewN ?_ _) | (with_reducible refine Kd.C_drew ?_))); (case side4 => exact (Kd.R_reads' HO394.out).2.1); rintro e w21 ⟨rfl, hb⟩; have n0_ := Aside0.mk (Kd.R_below (by (with_reducible repeat (first | apply Kd.R_alloc | apply Kd.R_drewN | apply Kd.R_drew)); exact HO392.out) hb); have n1_ := Aside0.mk (Kd.R_below (by (with_reducible repeat (first | apply Kd.R_alloc | apply Kd.R_drewN | apply Kd.R_drew)); exact HO394.out) hb); have n2_ := Aside0.mk (Kd.R_below (by (with_reducible repeat (first | apply Kd.R_alloc | apply Kd.R_drewN | apply Kd.R_drew)); exact HO398.out) hb); have n3_ := Aside0.mk (Kd.R_below (by (with_reducible repeat (first | apply Kd.R_alloc | apply Kd.R_drewN | apply Kd.R_drew)); exact HO402.out) hb); have n4_ := Aside0.mk (below_step (by repeat (first | (with_reducible first | exact HB.out | apply below_alloc | apply pw_below_drewN | apply below_drew1) | exact HB.out)) hb); clear HO392; clear HO394; clear HO398; clear HO402; clear HB; have HO392 := n0_; have HO394 := n1_; have HO398 := n2_; have HO402 := n3_; have HB := n4_; clear n0_ n1_ n2_ n3_ n4_; (try clear hb); (try clear hb2); (try clear hk); (try clear hi)) | (go_at_call 40; (with_reducible refine (spec_TotalTardiness.calls k t388 _ _ t389 _ _ t390 t409 t410 _ ?side1 ?side2 ?side3 ?side4 A10.out).mono ?_); (case side1 => repeat (first | exact (Kd.R_reads' HO392.out).2.2 | (with_reducible refine Kd.C_alloc ?_ _) | (with_reducible refine Kd.C_drewN ?_ _) | (with_reducible refine Kd.C_drew ?_))); (case side2 => exact (Kd.R_reads' HO392.out).2.1); (case side3 => repeat (first | exact (Kd.R_reads' HO394.out).2.2 | (with_reducible refine Kd.C_alloc ?_ _) | (with_reducible refine Kd.C_drewN ?_ _) | (with_reducible refine Kd.C_drew ?_))); (case side4 => exact (Kd.R_reads' HO394.out).2.1); rintro e w22 ⟨rfl, hb⟩; have n0_ := Aside0.mk (Kd.R_below (by (with_reducible repeat (first | apply Kd.R_alloc | apply Kd.R_drewN | apply Kd.R_drew)); exact HO392.out) hb); have n1_ := Aside0.mk (Kd.R_below (by (with_reducible repeat (first | apply Kd.R_alloc | apply Kd.R_drewN | apply Kd.R_drew)); exact HO394.out) hb); have n2_ := Aside0.mk (Kd.R_below (by (with_reducible repeat (first | apply Kd.R_alloc | apply Kd.R_drewN | apply Kd.R_drew)); exact HO398.out) hb); have n3_ := Aside0.mk (Kd.R_below (by (with_reducible repeat (first | apply Kd.R_alloc | apply Kd.R_drewN | apply Kd.R_drew)); exact HO402.out) hb); have n4_ := Aside0.mk (below_step (by repeat (first | (with_reducible first | exact HB.out | apply below_alloc | apply pw_below_drewN | apply below_drew1) | exact HB.out)) hb); clear HO392; clear HO394; clear HO398; clear HO402; clear HB; have HO392 := n0_; have HO394 := n1_; have HO398 := n2_; have HO402 := n3_; have HB := n4_; clear n0_ n1_ n2_ n3_ n4_; (try clear hb); (try clear hb2); (try clear hk); (try clear hi)) | (go_at_call 41; (with_reducible refine (impl_MostLate.calls k t388 _ _ t389 _ _ t390 t411 t412 _ ?side1 ?side2 ?side3 ?side4 A11.out).mono ?_); (case side1 => repeat (first | exact (Kd.R_reads' HO392.out).2.2 | (with_reducible refine Kd.C_alloc ?_ _) | (with_reducible refine Kd.C_drewN ?_ _) | (with_reducible refine Kd.C_drew ?_))); (case side2 => exact (Kd.R_reads' HO392.out).2.1); (case side3 => repeat (first | exact (Kd.R_reads' HO394.out).2.2 | (with_reducible refine Kd.C_alloc ?_ _) | (with_reducible refine Kd.C_drewN ?_ _) | (with_reducible refine Kd.C_drew ?_))); (case side4 => exact (Kd.R_reads' HO394.out).2.1); rintro e w23 ⟨rfl, hb⟩; have n0_ := Aside0.mk (Kd.R_below (by (with_reducible repeat (first | apply Kd.R_alloc | apply Kd.R_drewN | apply Kd.R_drew)); exact HO392.out) hb); have n1_ := Aside0.mk (Kd.R_below (by (with_reducible repeat (first | apply Kd.R_alloc | apply Kd.R_drewN | apply Kd.R_drew)); exact HO394.out) hb); have n2_ := Aside0.mk (Kd.R_below (by (with_reducible repeat (first | apply Kd.R_alloc | apply Kd.R_drewN | apply Kd.R_drew)); exact HO398.out) hb); have n3_ := Aside0.mk (Kd.R_below (by (with_reducible repeat (first | apply Kd.R_alloc | apply Kd.R_drewN | apply Kd.R_drew)); exact HO402.out) hb); have n4_ := Aside0.mk (below_step (by repeat (first | (with_reducible first | exact HB.out | apply below_alloc | apply pw_below_drewN | apply below_drew1) | exact HB.out)) hb); clear HO392; clear HO394; clear HO398; clear HO402; clear HB; have HO392 := n0_; have HO394 := n1_; have HO398 := n2_; have HO402 := n3_; have HB := n4_; clear n0_ n1_ n2_ n3_ n4_; (try clear hb); (try clear hb2); (try clear hk); (try clear hi)) | (go_at_call 42; (with_reducible refine (spec_MostLate.calls k t388 _ _ t389 _ _ t390 t413 t414 _ ?side1 ?side2 ?side3 ?side4 A12.out).mono ?_); (case side1 => repeat (first | exact (Kd.R_reads' HO392.out).2.2 | (with_reducible refine Kd.C_alloc ?_ _) | (with_reducible refine Kd.C_drewN ?_ _) | (with_reducible refine Kd.C_drew ?_))); (case side2 => exact (Kd.R_reads' HO392.out).2.1); (case side3 => repeat (first | exact (Kd.R_reads' HO394.out).2.2 | (with_reducible refine Kd.C_alloc ?_ _) | (with_reducible refine Kd.C_drewN ?_ _) | (with_reducible refine Kd.C_drew ?_))); (case side4 => exact (Kd.R_reads' HO394.out).2.1); rintro e w24 ⟨rfl, hb⟩; have n0_ := Aside0.mk (Kd.R_below (by (with_reducible repeat (first | apply Kd.R_alloc | apply Kd.R_drewN | apply Kd.R_drew)); exact HO392.out) hb); have n1_ := Aside0.mk (Kd.R_below (by (with_reducible repeat (first | apply Kd.R_alloc | apply Kd.R_drewN | apply Kd.R_drew)); exact HO394.out) hb); have n2_ := Aside0.mk (Kd.R_below (by (with_reducible repeat (first | apply Kd.R_alloc | apply Kd.R_drewN | apply Kd.R_drew)); exact HO398.out) hb); have n3_ := Aside0.mk (Kd.R_below (by (with_reducible repeat (first | apply Kd.R_alloc | apply Kd.R_drewN | apply Kd.R_drew)); exact HO402.out) hb); have n4_ := Aside0.mk (below_step (by repeat (first | (with_reducible first | exact HB.out | apply below_alloc | apply pw_below_drewN | apply below_drew1) | exact HB.out)) hb); clear HO392; clear HO394; clear HO398; clear HO402; clear HB; have HO392 := n0_; have HO394 := n1_; have HO398 := n2_; have HO402 := n3_; have HB := n4_; clear n0_ n1_ n2_ n3_ n4_; (try clear hb); (try clear hb2); (try clear hk); (try clear hi))))
    (try simp only [Act.put, List.setIfInBounds_toArray, List.set_cons_zero, List.set_cons_succ])
    go_cut [138] (fun v138 wc => ∃ (kq : Nat) (x138_12 : Bool), v138 = .bool x138_12 ∧ Aside0 (laws_FnDone.j0 kq t388 t389 t395 t396 t403 t407 t411 x138_12 = some r) ∧ Aside0 (kq ≤ k) ∧ Aside0 (Kd.R k55 55 wc w.heap.size (fun _ => True) (.slice Ao15 t389.length co15) t389) ∧ Aside0 (Kd.R (Kd.int .i64) 2 wc w.heap.size (fun _ => True) v397 t395) ∧ Aside0 (Below w.heap.size w wc))
    case first => as_aux_lemma =>
      have H := HC13.out
      clear HC13
      by_cases c25 : t396 = t400
      · rw [if_pos c25] at H
        have c25b0 : (t396 == t400) = true := beq_iff_eq.mpr c25
        have c25b1 : (t396 != t400) = false := bne_eq_false_iff_eq.mpr c25
        clear c25
        (first | rw [c25b0] | (simp only [i64_w, i32_w]; rw [c25b0]) | skip)
        replace H := Option.bind_eq_some_iff.mp H
        obtain ⟨t415, A260, H⟩ := H
        replace H : (if t415 = true then (if t404 = t406 then (if t403 = t405 then (if t408 = t410 then (if t407 = t409 then (if t412 = t414 then (if t411 = t413 then (if t404 = t396 then (laws_FnDone.j0 k t388 t389 t395 t396 t403 t407 t411 (t408 != t396)) else (laws_FnDone.j0 k t388 t389 t395 t396 t403 t407 t411 true)) else (laws_FnDone.j0 k t388 t389 t395 t396 t403 t407 t411 true)) else (laws_FnDone.j0 k t388 t389 t395 t396 t403 t407 t411 true)) else (laws_FnDone.j0 k t388 t389 t395 t396 t403 t407 t411 true)) else (laws_FnDone.j0 k t388 t389 t395 t396 t403 t407 t411 true)) else (laws_FnDone.j0 k t388 t389 t395 t396 t403 t407 t411 true)) else (laws_FnDone.j0 k t388 t389 t395 t396 t403 t407 t411 true)) else (laws_FnDone.j0 k t388 t389 t395 t396 t403 t407 t411 true)) = some r := H
        have A26 := Aside0.mk A260
        clear A260
        by_cases c27 : t415 = true
        · subst c27
          have H1 : (if t404 = t406 then (if t403 = t405 then (if t408 = t410 then (if t407 = t409 then (if t412 = t414 then (if t411 = t413 then (if t404 = t396 then (laws_FnDone.j0 k t388 t389 t395 t396 t403 t407 t411 (t408 != t396)) else (laws_FnDone.j0 k t388 t389 t395 t396 t403 t407 t411 true)) else (laws_FnDone.j0 k t388 t389 t395 t396 t403 t407 t411 true)) else (laws_FnDone.j0 k t388 t389 t395 t396 t403 t407 t411 true)) else (laws_FnDone.j0 k t388 t389 t395 t396 t403 t407 t411 true)) else (laws_FnDone.j0 k t388 t389 t395 t396 t403 t407 t411 true)) else (laws_FnDone.j0 k t388 t389 t395 t396 t403 t407 t411 true)) else (laws_FnDone.j0 k t388 t389 t395 t396 t403 t407 t411 true)) = some r := by rw [if_pos rfl] at H; exact H
          clear H
          have H := H1
          clear H1
          by_cases c28 : t404 = t406
          · rw [if_pos c28] at H
            have c28b0 : (t404 == t406) = true := beq_iff_eq.mpr c28
            have c28b1 : (t404 != t406) = false := bne_eq_false_iff_eq.mpr c28
            clear c28
            by_cases c29 : t403 = t405
            · rw [if_pos c29] at H
              have c29b0 : (t403 == t405) = true := beq_iff_eq.mpr c29
              have c29b1 : (t403 != t405) = false := bne_eq_false_iff_eq.mpr c29
              clear c29
              by_cases c30 : t408 = t410
              · rw [if_pos c30] at H
                have c30b0 : (t408 == t410) = true := beq_iff_eq.mpr c30
                have c30b1 : (t408 != t410) = false := bne_eq_false_iff_eq.mpr c30
                clear c30
                by_cases c31 : t407 = t409
                · rw [if_pos c31] at H
                  have c31b0 : (t407 == t409) = true := beq_iff_eq.mpr c31
                  have c31b1 : (t407 != t409) = false := bne_eq_false_iff_eq.mpr c31
                  clear c31
                  by_cases c32 : t412 = t414
                  · rw [if_pos c32] at H
                    have c32b0 : (t412 == t414) = true := beq_iff_eq.mpr c32
                    have c32b1 : (t412 != t414) = false := bne_eq_false_iff_eq.mpr c32
                    clear c32
                    by_cases c33 : t411 = t413
                    · rw [if_pos c33] at H
                      have c33b0 : (t411 == t413) = true := beq_iff_eq.mpr c33
                      have c33b1 : (t411 != t413) = false := bne_eq_false_iff_eq.mpr c33
                      clear c33
                      by_cases c34 : t404 = t396
                      · rw [if_pos c34] at H
                        have c34b0 : (t404 == t396) = true := beq_iff_eq.mpr c34
                        have c34b1 : (t404 != t396) = false := bne_eq_false_iff_eq.mpr c34
                        clear c34
                        have H' := Aside0.mk H
                        clear H
                        obtain ⟨Ao35, co35, eo35⟩ := Kd.R_slice HO398.out
                        subst eo35
                        obtain ⟨Ao36, co36, eo36⟩ := Kd.R_slice HO402.out
                        subst eo36
                        go_wp2_with (first | (go_at_call 43; (with_reducible refine (laws_likeInts.calls k _ _ t395 _ _ t399 true _ ?side1 ?side2 ?side3 ?side4 A26.out).mono ?_); (case side1 => repeat (first | exact (Kd.R_reads' HO398.out).2.2 | (with_reducible refine Kd.C_alloc ?_ _) | (with_reducible refine Kd.C_drewN ?_ _) | (with_reducible refine Kd.C_drew ?_))); (case side2 => exact (Kd.R_reads' HO398.out).2.1); (case side3 => repeat (first | exact (Kd.R_reads' HO402.out).2.2 | (with_reducible refine Kd.C_alloc ?_ _) | (with_reducible refine Kd.C_drewN ?_ _) | (with_reducible refine Kd.C_drew ?_))); (case side4 => exact (Kd.R_reads' HO402.out).2.1); rintro e w' ⟨rfl, ⟨nd, rfl⟩⟩; (try first | exact ⟨rfl, _, World.drewN_drewN _ _ _⟩ | exact ⟨rfl, _, Eq.trans (World.drewN_drewN _ _ _) (congrArg (World.drewN _) (Nat.add_assoc _ _ _))⟩)))
                        repeat (go_quiet (first | (go_at_call 43; (with_reducible refine (laws_likeInts.calls k _ _ t395 _ _ t399 true _ ?side1 ?side2 ?side3 ?side4 A26.out).mono ?_); (case side1 => repeat (first | exact (Kd.R_reads' HO398.out).2.2 | (with_reducible refine Kd.C_alloc ?_ _) | (with_reducible refine Kd.C_drewN ?_ _) | (with_reducible refine Kd.C_drew ?_))); (case side2 => exact (Kd.R_reads' HO398.out).2.1); (case side3 => repeat (first | exact (Kd.R_reads' HO402.out).2.2 | (with_reducible refine Kd.C_alloc ?_ _) | (with_reducible refine Kd.C_drewN ?_ _) | (with_reducible refine Kd.C_drew ?_))); (case side4 => exact (Kd.R_reads' HO402.out).2.1); rintro e w' ⟨rfl, ⟨nd, rfl⟩⟩; (try first | exact ⟨rfl, _, World.drewN_drewN _ _ _⟩ | exact ⟨rfl, _, Eq.trans (World.drewN_drewN _ _ _) (congrArg (World.drewN _) (Nat.add_assoc _ _ _))⟩))); try go_wp2_with (first | (go_at_call 43; (with_reducible refine (laws_likeInts.calls k _ _ t395 _ _ t399 true _ ?side1 ?side2 ?side3 ?side4 A26.out).mono ?_); (case side1 => repeat (first | exact (Kd.R_reads' HO398.out).2.2 | (with_reducible refine Kd.C_alloc ?_ _) | (with_reducible refine Kd.C_drewN ?_ _) | (with_reducible refine Kd.C_drew ?_))); (case side2 => exact (Kd.R_reads' HO398.out).2.1); (case side3 => repeat (first | exact (Kd.R_reads' HO402.out).2.2 | (with_reducible refine Kd.C_alloc ?_ _) | (with_reducible refine Kd.C_drewN ?_ _) | (with_reducible refine Kd.C_drew ?_))); (case side4 => exact (Kd.R_reads' HO402.out).2.1); rintro e w' ⟨rfl, ⟨nd, rfl⟩⟩; (try first | exact ⟨rfl, _, World.drewN_drewN _ _ _⟩ | exact ⟨rfl, _, Eq.trans (World.drewN_drewN _ _ _) (congrArg (World.drewN _) (Nat.add_assoc _ _ _))⟩))))
                        go_meet
                        case rel => exact ⟨_, ((t408 != t396)), (by first | rfl | (simp; done) | (simp [*]; done)), H', ⟨by first | omega | exact Nat.le_refl _⟩, ⟨by (with_reducible repeat (first | apply Kd.R_alloc | apply Kd.R_drewN | apply Kd.R_drew)); exact HO392.out⟩, ⟨by (with_reducible repeat (first | apply Kd.R_alloc | apply Kd.R_drewN | apply Kd.R_drew)); exact Kd.R_mono HO398.out (fun _ hk => trivial)⟩, ⟨by repeat (first | (with_reducible first | exact HB.out | apply below_alloc | apply pw_below_drewN | apply below_drew1) | exact HB.out)⟩⟩
                      · rw [if_neg c34] at H
                        have c34b0 : (t404 == t396) = false := beq_eq_false_iff_ne.mpr c34
                        have c34b1 : (t404 != t396) = true := bne_iff_ne.mpr c34
                        have H' := Aside0.mk H
                        clear H
                        obtain ⟨Ao37, co37, eo37⟩ := Kd.R_slice HO398.out
                        subst eo37
                        obtain ⟨Ao38, co38, eo38⟩ := Kd.R_slice HO402.out
                        subst eo38
                        go_wp2_with (first | (go_at_call 43; (with_reducible refine (laws_likeInts.calls k _ _ t395 _ _ t399 true _ ?side1 ?side2 ?side3 ?side4 A26.out).mono ?_); (case side1 => repeat (first | exact (Kd.R_reads' HO398.out).2.2 | (with_reducible refine Kd.C_alloc ?_ _) | (with_reducible refine Kd.C_drewN ?_ _) | (with_reducible refine Kd.C_drew ?_))); (case side2 => exact (Kd.R_reads' HO398.out).2.1); (case side3 => repeat (first | exact (Kd.R_reads' HO402.out).2.2 | (with_reducible refine Kd.C_alloc ?_ _) | (with_reducible refine Kd.C_drewN ?_ _) | (with_reducible refine Kd.C_drew ?_))); (case side4 => exact (Kd.R_reads' HO402.out).2.1); rintro e w' ⟨rfl, ⟨nd, rfl⟩⟩; (try first | exact ⟨rfl, _, World.drewN_drewN _ _ _⟩ | exact ⟨rfl, _, Eq.trans (World.drewN_drewN _ _ _) (congrArg (World.drewN _) (Nat.add_assoc _ _ _))⟩)))
                        repeat (go_quiet (first | (go_at_call 43; (with_reducible refine (laws_likeInts.calls k _ _ t395 _ _ t399 true _ ?side1 ?side2 ?side3 ?side4 A26.out).mono ?_); (case side1 => repeat (first | exact (Kd.R_reads' HO398.out).2.2 | (with_reducible refine Kd.C_alloc ?_ _) | (with_reducible refine Kd.C_drewN ?_ _) | (with_reducible refine Kd.C_drew ?_))); (case side2 => exact (Kd.R_reads' HO398.out).2.1); (case side3 => repeat (first | exact (Kd.R_reads' HO402.out).2.2 | (with_reducible refine Kd.C_alloc ?_ _) | (with_reducible refine Kd.C_drewN ?_ _) | (with_reducible refine Kd.C_drew ?_))); (case side4 => exact (Kd.R_reads' HO402.out).2.1); rintro e w' ⟨rfl, ⟨nd, rfl⟩⟩; (try first | exact ⟨rfl, _, World.drewN_drewN _ _ _⟩ | exact ⟨rfl, _, Eq.trans (World.drewN_drewN _ _ _) (congrArg (World.drewN _) (Nat.add_assoc _ _ _))⟩))); try go_wp2_with (first | (go_at_call 43; (with_reducible refine (laws_likeInts.calls k _ _ t395 _ _ t399 true _ ?side1 ?side2 ?side3 ?side4 A26.out).mono ?_); (case side1 => repeat (first | exact (Kd.R_reads' HO398.out).2.2 | (with_reducible refine Kd.C_alloc ?_ _) | (with_reducible refine Kd.C_drewN ?_ _) | (with_reducible refine Kd.C_drew ?_))); (case side2 => exact (Kd.R_reads' HO398.out).2.1); (case side3 => repeat (first | exact (Kd.R_reads' HO402.out).2.2 | (with_reducible refine Kd.C_alloc ?_ _) | (with_reducible refine Kd.C_drewN ?_ _) | (with_reducible refine Kd.C_drew ?_))); (case side4 => exact (Kd.R_reads' HO402.out).2.1); rintro e w' ⟨rfl, ⟨nd, rfl⟩⟩; (try first | exact ⟨rfl, _, World.drewN_drewN _ _ _⟩ | exact ⟨rfl, _, Eq.trans (World.drewN_drewN _ _ _) (congrArg (World.drewN _) (Nat.add_assoc _ _ _))⟩))))
                        go_meet
                        case rel => exact ⟨_, (true), (by first | rfl | (simp; done) | (simp [*]; done)), H', ⟨by first | omega | exact Nat.le_refl _⟩, ⟨by (with_reducible repeat (first | apply Kd.R_alloc | apply Kd.R_drewN | apply Kd.R_drew)); exact HO392.out⟩, ⟨by (with_reducible repeat (first | apply Kd.R_alloc | apply Kd.R_drewN | apply Kd.R_drew)); exact Kd.R_mono HO398.out (fun _ hk => trivial)⟩, ⟨by repeat (first | (with_reducible first | exact HB.out | apply below_alloc | apply pw_below_drewN | apply below_drew1) | exact HB.out)⟩⟩
                    · rw [if_neg c33] at H
                      have c33b0 : (t411 == t413) = false := beq_eq_false_iff_ne.mpr c33
                      have c33b1 : (t411 != t413) = true := bne_iff_ne.mpr c33
                      have H' := Aside0.mk H
                      clear H
                      obtain ⟨Ao39, co39, eo39⟩ := Kd.R_slice HO398.out
                      subst eo39
                      obtain ⟨Ao40, co40, eo40⟩ := Kd.R_slice HO402.out
                      subst eo40
                      go_wp2_with (first | (go_at_call 43; (with_reducible refine (laws_likeInts.calls k _ _ t395 _ _ t399 true _ ?side1 ?side2 ?side3 ?side4 A26.out).mono ?_); (case side1 => repeat (first | exact (Kd.R_reads' HO398.out).2.2 | (with_reducible refine Kd.C_alloc ?_ _) | (with_reducible refine Kd.C_drewN ?_ _) | (with_reducible refine Kd.C_drew ?_))); (case side2 => exact (Kd.R_reads' HO398.out).2.1); (case side3 => repeat (first | exact (Kd.R_reads' HO402.out).2.2 | (with_reducible refine Kd.C_alloc ?_ _) | (with_reducible refine Kd.C_drewN ?_ _) | (with_reducible refine Kd.C_drew ?_))); (case side4 => exact (Kd.R_reads' HO402.out).2.1); rintro e w' ⟨rfl, ⟨nd, rfl⟩⟩; (try first | exact ⟨rfl, _, World.drewN_drewN _ _ _⟩ | exact ⟨rfl, _, Eq.trans (World.drewN_drewN _ _ _) (congrArg (World.drewN _) (Nat.add_assoc _ _ _))⟩)))
                      repeat (go_quiet (first | (go_at_call 43; (with_reducible refine (laws_likeInts.calls k _ _ t395 _ _ t399 true _ ?side1 ?side2 ?side3 ?side4 A26.out).mono ?_); (case side1 => repeat (first | exact (Kd.R_reads' HO398.out).2.2 | (with_reducible refine Kd.C_alloc ?_ _) | (with_reducible refine Kd.C_drewN ?_ _) | (with_reducible refine Kd.C_drew ?_))); (case side2 => exact (Kd.R_reads' HO398.out).2.1); (case side3 => repeat (first | exact (Kd.R_reads' HO402.out).2.2 | (with_reducible refine Kd.C_alloc ?_ _) | (with_reducible refine Kd.C_drewN ?_ _) | (with_reducible refine Kd.C_drew ?_))); (case side4 => exact (Kd.R_reads' HO402.out).2.1); rintro e w' ⟨rfl, ⟨nd, rfl⟩⟩; (try first | exact ⟨rfl, _, World.drewN_drewN _ _ _⟩ | exact ⟨rfl, _, Eq.trans (World.drewN_drewN _ _ _) (congrArg (World.drewN _) (Nat.add_assoc _ _ _))⟩))); try go_wp2_with (first | (go_at_call 43; (with_reducible refine (laws_likeInts.calls k _ _ t395 _ _ t399 true _ ?side1 ?side2 ?side3 ?side4 A26.out).mono ?_); (case side1 => repeat (first | exact (Kd.R_reads' HO398.out).2.2 | (with_reducible refine Kd.C_alloc ?_ _) | (with_reducible refine Kd.C_drewN ?_ _) | (with_reducible refine Kd.C_drew ?_))); (case side2 => exact (Kd.R_reads' HO398.out).2.1); (case side3 => repeat (first | exact (Kd.R_reads' HO402.out).2.2 | (with_reducible refine Kd.C_alloc ?_ _) | (with_reducible refine Kd.C_drewN ?_ _) | (with_reducible refine Kd.C_drew ?_))); (case side4 => exact (Kd.R_reads' HO402.out).2.1); rintro e w' ⟨rfl, ⟨nd, rfl⟩⟩; (try first | exact ⟨rfl, _, World.drewN_drewN _ _ _⟩ | exact ⟨rfl, _, Eq.trans (World.drewN_drewN _ _ _) (congrArg (World.drewN _) (Nat.add_assoc _ _ _))⟩))))
                      go_meet
                      case rel => exact ⟨_, (true), (by first | rfl | (simp; done) | (simp [*]; done)), H', ⟨by first | omega | exact Nat.le_refl _⟩, ⟨by (with_reducible repeat (first | apply Kd.R_alloc | apply Kd.R_drewN | apply Kd.R_drew)); exact HO392.out⟩, ⟨by (with_reducible repeat (first | apply Kd.R_alloc | apply Kd.R_drewN | apply Kd.R_drew)); exact Kd.R_mono HO398.out (fun _ hk => trivial)⟩, ⟨by repeat (first | (with_reducible first | exact HB.out | apply below_alloc | apply pw_below_drewN | apply below_drew1) | exact HB.out)⟩⟩
                  · rw [if_neg c32] at H
                    have c32b0 : (t412 == t414) = false := beq_eq_false_iff_ne.mpr c32
                    have c32b1 : (t412 != t414) = true := bne_iff_ne.mpr c32
                    have H' := Aside0.mk H
                    clear H
                    obtain ⟨Ao41, co41, eo41⟩ := Kd.R_slice HO398.out
                    subst eo41
                    obtain ⟨Ao42, co42, eo42⟩ := Kd.R_slice HO402.out
                    subst eo42
                    go_wp2_with (first | (go_at_call 43; (with_reducible refine (laws_likeInts.calls k _ _ t395 _ _ t399 true _ ?side1 ?side2 ?side3 ?side4 A26.out).mono ?_); (case side1 => repeat (first | exact (Kd.R_reads' HO398.out).2.2 | (with_reducible refine Kd.C_alloc ?_ _) | (with_reducible refine Kd.C_drewN ?_ _) | (with_reducible refine Kd.C_drew ?_))); (case side2 => exact (Kd.R_reads' HO398.out).2.1); (case side3 => repeat (first | exact (Kd.R_reads' HO402.out).2.2 | (with_reducible refine Kd.C_alloc ?_ _) | (with_reducible refine Kd.C_drewN ?_ _) | (with_reducible refine Kd.C_drew ?_))); (case side4 => exact (Kd.R_reads' HO402.out).2.1); rintro e w' ⟨rfl, ⟨nd, rfl⟩⟩; (try first | exact ⟨rfl, _, World.drewN_drewN _ _ _⟩ | exact ⟨rfl, _, Eq.trans (World.drewN_drewN _ _ _) (congrArg (World.drewN _) (Nat.add_assoc _ _ _))⟩)))
                    repeat (go_quiet (first | (go_at_call 43; (with_reducible refine (laws_likeInts.calls k _ _ t395 _ _ t399 true _ ?side1 ?side2 ?side3 ?side4 A26.out).mono ?_); (case side1 => repeat (first | exact (Kd.R_reads' HO398.out).2.2 | (with_reducible refine Kd.C_alloc ?_ _) | (with_reducible refine Kd.C_drewN ?_ _) | (with_reducible refine Kd.C_drew ?_))); (case side2 => exact (Kd.R_reads' HO398.out).2.1); (case side3 => repeat (first | exact (Kd.R_reads' HO402.out).2.2 | (with_reducible refine Kd.C_alloc ?_ _) | (with_reducible refine Kd.C_drewN ?_ _) | (with_reducible refine Kd.C_drew ?_))); (case side4 => exact (Kd.R_reads' HO402.out).2.1); rintro e w' ⟨rfl, ⟨nd, rfl⟩⟩; (try first | exact ⟨rfl, _, World.drewN_drewN _ _ _⟩ | exact ⟨rfl, _, Eq.trans (World.drewN_drewN _ _ _) (congrArg (World.drewN _) (Nat.add_assoc _ _ _))⟩))); try go_wp2_with (first | (go_at_call 43; (with_reducible refine (laws_likeInts.calls k _ _ t395 _ _ t399 true _ ?side1 ?side2 ?side3 ?side4 A26.out).mono ?_); (case side1 => repeat (first | exact (Kd.R_reads' HO398.out).2.2 | (with_reducible refine Kd.C_alloc ?_ _) | (with_reducible refine Kd.C_drewN ?_ _) | (with_reducible refine Kd.C_drew ?_))); (case side2 => exact (Kd.R_reads' HO398.out).2.1); (case side3 => repeat (first | exact (Kd.R_reads' HO402.out).2.2 | (with_reducible refine Kd.C_alloc ?_ _) | (with_reducible refine Kd.C_drewN ?_ _) | (with_reducible refine Kd.C_drew ?_))); (case side4 => exact (Kd.R_reads' HO402.out).2.1); rintro e w' ⟨rfl, ⟨nd, rfl⟩⟩; (try first | exact ⟨rfl, _, World.drewN_drewN _ _ _⟩ | exact ⟨rfl, _, Eq.trans (World.drewN_drewN _ _ _) (congrArg (World.drewN _) (Nat.add_assoc _ _ _))⟩))))
                    go_meet
                    case rel => exact ⟨_, (true), (by first | rfl | (simp; done) | (simp [*]; done)), H', ⟨by first | omega | exact Nat.le_refl _⟩, ⟨by (with_reducible repeat (first | apply Kd.R_alloc | apply Kd.R_drewN | apply Kd.R_drew)); exact HO392.out⟩, ⟨by (with_reducible repeat (first | apply Kd.R_alloc | apply Kd.R_drewN | apply Kd.R_drew)); exact Kd.R_mono HO398.out (fun _ hk => trivial)⟩, ⟨by repeat (first | (with_reducible first | exact HB.out | apply below_alloc | apply pw_below_drewN | apply below_drew1) | exact HB.out)⟩⟩
                · rw [if_neg c31] at H
                  have c31b0 : (t407 == t409) = false := beq_eq_false_iff_ne.mpr c31
                  have c31b1 : (t407 != t409) = true := bne_iff_ne.mpr c31
                  have H' := Aside0.mk H
                  clear H
                  obtain ⟨Ao43, co43, eo43⟩ := Kd.R_slice HO398.out
                  subst eo43
                  obtain ⟨Ao44, co44, eo44⟩ := Kd.R_slice HO402.out
                  subst eo44
                  go_wp2_with (first | (go_at_call 43; (with_reducible refine (laws_likeInts.calls k _ _ t395 _ _ t399 true _ ?side1 ?side2 ?side3 ?side4 A26.out).mono ?_); (case side1 => repeat (first | exact (Kd.R_reads' HO398.out).2.2 | (with_reducible refine Kd.C_alloc ?_ _) | (with_reducible refine Kd.C_drewN ?_ _) | (with_reducible refine Kd.C_drew ?_))); (case side2 => exact (Kd.R_reads' HO398.out).2.1); (case side3 => repeat (first | exact (Kd.R_reads' HO402.out).2.2 | (with_reducible refine Kd.C_alloc ?_ _) | (with_reducible refine Kd.C_drewN ?_ _) | (with_reducible refine Kd.C_drew ?_))); (case side4 => exact (Kd.R_reads' HO402.out).2.1); rintro e w' ⟨rfl, ⟨nd, rfl⟩⟩; (try first | exact ⟨rfl, _, World.drewN_drewN _ _ _⟩ | exact ⟨rfl, _, Eq.trans (World.drewN_drewN _ _ _) (congrArg (World.drewN _) (Nat.add_assoc _ _ _))⟩)))
                  repeat (go_quiet (first | (go_at_call 43; (with_reducible refine (laws_likeInts.calls k _ _ t395 _ _ t399 true _ ?side1 ?side2 ?side3 ?side4 A26.out).mono ?_); (case side1 => repeat (first | exact (Kd.R_reads' HO398.out).2.2 | (with_reducible refine Kd.C_alloc ?_ _) | (with_reducible refine Kd.C_drewN ?_ _) | (with_reducible refine Kd.C_drew ?_))); (case side2 => exact (Kd.R_reads' HO398.out).2.1); (case side3 => repeat (first | exact (Kd.R_reads' HO402.out).2.2 | (with_reducible refine Kd.C_alloc ?_ _) | (with_reducible refine Kd.C_drewN ?_ _) | (with_reducible refine Kd.C_drew ?_))); (case side4 => exact (Kd.R_reads' HO402.out).2.1); rintro e w' ⟨rfl, ⟨nd, rfl⟩⟩; (try first | exact ⟨rfl, _, World.drewN_drewN _ _ _⟩ | exact ⟨rfl, _, Eq.trans (World.drewN_drewN _ _ _) (congrArg (World.drewN _) (Nat.add_assoc _ _ _))⟩))); try go_wp2_with (first | (go_at_call 43; (with_reducible refine (laws_likeInts.calls k _ _ t395 _ _ t399 true _ ?side1 ?side2 ?side3 ?side4 A26.out).mono ?_); (case side1 => repeat (first | exact (Kd.R_reads' HO398.out).2.2 | (with_reducible refine Kd.C_alloc ?_ _) | (with_reducible refine Kd.C_drewN ?_ _) | (with_reducible refine Kd.C_drew ?_))); (case side2 => exact (Kd.R_reads' HO398.out).2.1); (case side3 => repeat (first | exact (Kd.R_reads' HO402.out).2.2 | (with_reducible refine Kd.C_alloc ?_ _) | (with_reducible refine Kd.C_drewN ?_ _) | (with_reducible refine Kd.C_drew ?_))); (case side4 => exact (Kd.R_reads' HO402.out).2.1); rintro e w' ⟨rfl, ⟨nd, rfl⟩⟩; (try first | exact ⟨rfl, _, World.drewN_drewN _ _ _⟩ | exact ⟨rfl, _, Eq.trans (World.drewN_drewN _ _ _) (congrArg (World.drewN _) (Nat.add_assoc _ _ _))⟩))))
                  go_meet
                  case rel => exact ⟨_, (true), (by first | rfl | (simp; done) | (simp [*]; done)), H', ⟨by first | omega | exact Nat.le_refl _⟩, ⟨by (with_reducible repeat (first | apply Kd.R_alloc | apply Kd.R_drewN | apply Kd.R_drew)); exact HO392.out⟩, ⟨by (with_reducible repeat (first | apply Kd.R_alloc | apply Kd.R_drewN | apply Kd.R_drew)); exact Kd.R_mono HO398.out (fun _ hk => trivial)⟩, ⟨by repeat (first | (with_reducible first | exact HB.out | apply below_alloc | apply pw_below_drewN | apply below_drew1) | exact HB.out)⟩⟩
              · rw [if_neg c30] at H
                have c30b0 : (t408 == t410) = false := beq_eq_false_iff_ne.mpr c30
                have c30b1 : (t408 != t410) = true := bne_iff_ne.mpr c30
                have H' := Aside0.mk H
                clear H
                obtain ⟨Ao45, co45, eo45⟩ := Kd.R_slice HO398.out
                subst eo45
                obtain ⟨Ao46, co46, eo46⟩ := Kd.R_slice HO402.out
                subst eo46
                go_wp2_with (first | (go_at_call 43; (with_reducible refine (laws_likeInts.calls k _ _ t395 _ _ t399 true _ ?side1 ?side2 ?side3 ?side4 A26.out).mono ?_); (case side1 => repeat (first | exact (Kd.R_reads' HO398.out).2.2 | (with_reducible refine Kd.C_alloc ?_ _) | (with_reducible refine Kd.C_drewN ?_ _) | (with_reducible refine Kd.C_drew ?_))); (case side2 => exact (Kd.R_reads' HO398.out).2.1); (case side3 => repeat (first | exact (Kd.R_reads' HO402.out).2.2 | (with_reducible refine Kd.C_alloc ?_ _) | (with_reducible refine Kd.C_drewN ?_ _) | (with_reducible refine Kd.C_drew ?_))); (case side4 => exact (Kd.R_reads' HO402.out).2.1); rintro e w' ⟨rfl, ⟨nd, rfl⟩⟩; (try first | exact ⟨rfl, _, World.drewN_drewN _ _ _⟩ | exact ⟨rfl, _, Eq.trans (World.drewN_drewN _ _ _) (congrArg (World.drewN _) (Nat.add_assoc _ _ _))⟩)))
                repeat (go_quiet (first | (go_at_call 43; (with_reducible refine (laws_likeInts.calls k _ _ t395 _ _ t399 true _ ?side1 ?side2 ?side3 ?side4 A26.out).mono ?_); (case side1 => repeat (first | exact (Kd.R_reads' HO398.out).2.2 | (with_reducible refine Kd.C_alloc ?_ _) | (with_reducible refine Kd.C_drewN ?_ _) | (with_reducible refine Kd.C_drew ?_))); (case side2 => exact (Kd.R_reads' HO398.out).2.1); (case side3 => repeat (first | exact (Kd.R_reads' HO402.out).2.2 | (with_reducible refine Kd.C_alloc ?_ _) | (with_reducible refine Kd.C_drewN ?_ _) | (with_reducible refine Kd.C_drew ?_))); (case side4 => exact (Kd.R_reads' HO402.out).2.1); rintro e w' ⟨rfl, ⟨nd, rfl⟩⟩; (try first | exact ⟨rfl, _, World.drewN_drewN _ _ _⟩ | exact ⟨rfl, _, Eq.trans (World.drewN_drewN _ _ _) (congrArg (World.drewN _) (Nat.add_assoc _ _ _))⟩))); try go_wp2_with (first | (go_at_call 43; (with_reducible refine (laws_likeInts.calls k _ _ t395 _ _ t399 true _ ?side1 ?side2 ?side3 ?side4 A26.out).mono ?_); (case side1 => repeat (first | exact (Kd.R_reads' HO398.out).2.2 | (with_reducible refine Kd.C_alloc ?_ _) | (with_reducible refine Kd.C_drewN ?_ _) | (with_reducible refine Kd.C_drew ?_))); (case side2 => exact (Kd.R_reads' HO398.out).2.1); (case side3 => repeat (first | exact (Kd.R_reads' HO402.out).2.2 | (with_reducible refine Kd.C_alloc ?_ _) | (with_reducible refine Kd.C_drewN ?_ _) | (with_reducible refine Kd.C_drew ?_))); (case side4 => exact (Kd.R_reads' HO402.out).2.1); rintro e w' ⟨rfl, ⟨nd, rfl⟩⟩; (try first | exact ⟨rfl, _, World.drewN_drewN _ _ _⟩ | exact ⟨rfl, _, Eq.trans (World.drewN_drewN _ _ _) (congrArg (World.drewN _) (Nat.add_assoc _ _ _))⟩))))
                go_meet
                case rel => exact ⟨_, (true), (by first | rfl | (simp; done) | (simp [*]; done)), H', ⟨by first | omega | exact Nat.le_refl _⟩, ⟨by (with_reducible repeat (first | apply Kd.R_alloc | apply Kd.R_drewN | apply Kd.R_drew)); exact HO392.out⟩, ⟨by (with_reducible repeat (first | apply Kd.R_alloc | apply Kd.R_drewN | apply Kd.R_drew)); exact Kd.R_mono HO398.out (fun _ hk => trivial)⟩, ⟨by repeat (first | (with_reducible first | exact HB.out | apply below_alloc | apply pw_below_drewN | apply below_drew1) | exact HB.out)⟩⟩
            · rw [if_neg c29] at H
              have c29b0 : (t403 == t405) = false := beq_eq_false_iff_ne.mpr c29
              have c29b1 : (t403 != t405) = true := bne_iff_ne.mpr c29
              have H' := Aside0.mk H
              clear H
              obtain ⟨Ao47, co47, eo47⟩ := Kd.R_slice HO398.out
              subst eo47
              obtain ⟨Ao48, co48, eo48⟩ := Kd.R_slice HO402.out
              subst eo48
              go_wp2_with (first | (go_at_call 43; (with_reducible refine (laws_likeInts.calls k _ _ t395 _ _ t399 true _ ?side1 ?side2 ?side3 ?side4 A26.out).mono ?_); (case side1 => repeat (first | exact (Kd.R_reads' HO398.out).2.2 | (with_reducible refine Kd.C_alloc ?_ _) | (with_reducible refine Kd.C_drewN ?_ _) | (with_reducible refine Kd.C_drew ?_))); (case side2 => exact (Kd.R_reads' HO398.out).2.1); (case side3 => repeat (first | exact (Kd.R_reads' HO402.out).2.2 | (with_reducible refine Kd.C_alloc ?_ _) | (with_reducible refine Kd.C_drewN ?_ _) | (with_reducible refine Kd.C_drew ?_))); (case side4 => exact (Kd.R_reads' HO402.out).2.1); rintro e w' ⟨rfl, ⟨nd, rfl⟩⟩; (try first | exact ⟨rfl, _, World.drewN_drewN _ _ _⟩ | exact ⟨rfl, _, Eq.trans (World.drewN_drewN _ _ _) (congrArg (World.drewN _) (Nat.add_assoc _ _ _))⟩)))
              repeat (go_quiet (first | (go_at_call 43; (with_reducible refine (laws_likeInts.calls k _ _ t395 _ _ t399 true _ ?side1 ?side2 ?side3 ?side4 A26.out).mono ?_); (case side1 => repeat (first | exact (Kd.R_reads' HO398.out).2.2 | (with_reducible refine Kd.C_alloc ?_ _) | (with_reducible refine Kd.C_drewN ?_ _) | (with_reducible refine Kd.C_drew ?_))); (case side2 => exact (Kd.R_reads' HO398.out).2.1); (case side3 => repeat (first | exact (Kd.R_reads' HO402.out).2.2 | (with_reducible refine Kd.C_alloc ?_ _) | (with_reducible refine Kd.C_drewN ?_ _) | (with_reducible refine Kd.C_drew ?_))); (case side4 => exact (Kd.R_reads' HO402.out).2.1); rintro e w' ⟨rfl, ⟨nd, rfl⟩⟩; (try first | exact ⟨rfl, _, World.drewN_drewN _ _ _⟩ | exact ⟨rfl, _, Eq.trans (World.drewN_drewN _ _ _) (congrArg (World.drewN _) (Nat.add_assoc _ _ _))⟩))); try go_wp2_with (first | (go_at_call 43; (with_reducible refine (laws_likeInts.calls k _ _ t395 _ _ t399 true _ ?side1 ?side2 ?side3 ?side4 A26.out).mono ?_); (case side1 => repeat (first | exact (Kd.R_reads' HO398.out).2.2 | (with_reducible refine Kd.C_alloc ?_ _) | (with_reducible refine Kd.C_drewN ?_ _) | (with_reducible refine Kd.C_drew ?_))); (case side2 => exact (Kd.R_reads' HO398.out).2.1); (case side3 => repeat (first | exact (Kd.R_reads' HO402.out).2.2 | (with_reducible refine Kd.C_alloc ?_ _) | (with_reducible refine Kd.C_drewN ?_ _) | (with_reducible refine Kd.C_drew ?_))); (case side4 => exact (Kd.R_reads' HO402.out).2.1); rintro e w' ⟨rfl, ⟨nd, rfl⟩⟩; (try first | exact ⟨rfl, _, World.drewN_drewN _ _ _⟩ | exact ⟨rfl, _, Eq.trans (World.drewN_drewN _ _ _) (congrArg (World.drewN _) (Nat.add_assoc _ _ _))⟩))))
              go_meet
              case rel => exact ⟨_, (true), (by first | rfl | (simp; done) | (simp [*]; done)), H', ⟨by first | omega | exact Nat.le_refl _⟩, ⟨by (with_reducible repeat (first | apply Kd.R_alloc | apply Kd.R_drewN | apply Kd.R_drew)); exact HO392.out⟩, ⟨by (with_reducible repeat (first | apply Kd.R_alloc | apply Kd.R_drewN | apply Kd.R_drew)); exact Kd.R_mono HO398.out (fun _ hk => trivial)⟩, ⟨by repeat (first | (with_reducible first | exact HB.out | apply below_alloc | apply pw_below_drewN | apply below_drew1) | exact HB.out)⟩⟩
          · rw [if_neg c28] at H
            have c28b0 : (t404 == t406) = false := beq_eq_false_iff_ne.mpr c28
            have c28b1 : (t404 != t406) = true := bne_iff_ne.mpr c28
            have H' := Aside0.mk H
            clear H
            obtain ⟨Ao49, co49, eo49⟩ := Kd.R_slice HO398.out
            subst eo49
            obtain ⟨Ao50, co50, eo50⟩ := Kd.R_slice HO402.out
            subst eo50
            go_wp2_with (first | (go_at_call 43; (with_reducible refine (laws_likeInts.calls k _ _ t395 _ _ t399 true _ ?side1 ?side2 ?side3 ?side4 A26.out).mono ?_); (case side1 => repeat (first | exact (Kd.R_reads' HO398.out).2.2 | (with_reducible refine Kd.C_alloc ?_ _) | (with_reducible refine Kd.C_drewN ?_ _) | (with_reducible refine Kd.C_drew ?_))); (case side2 => exact (Kd.R_reads' HO398.out).2.1); (case side3 => repeat (first | exact (Kd.R_reads' HO402.out).2.2 | (with_reducible refine Kd.C_alloc ?_ _) | (with_reducible refine Kd.C_drewN ?_ _) | (with_reducible refine Kd.C_drew ?_))); (case side4 => exact (Kd.R_reads' HO402.out).2.1); rintro e w' ⟨rfl, ⟨nd, rfl⟩⟩; (try first | exact ⟨rfl, _, World.drewN_drewN _ _ _⟩ | exact ⟨rfl, _, Eq.trans (World.drewN_drewN _ _ _) (congrArg (World.drewN _) (Nat.add_assoc _ _ _))⟩)))
            repeat (go_quiet (first | (go_at_call 43; (with_reducible refine (laws_likeInts.calls k _ _ t395 _ _ t399 true _ ?side1 ?side2 ?side3 ?side4 A26.out).mono ?_); (case side1 => repeat (first | exact (Kd.R_reads' HO398.out).2.2 | (with_reducible refine Kd.C_alloc ?_ _) | (with_reducible refine Kd.C_drewN ?_ _) | (with_reducible refine Kd.C_drew ?_))); (case side2 => exact (Kd.R_reads' HO398.out).2.1); (case side3 => repeat (first | exact (Kd.R_reads' HO402.out).2.2 | (with_reducible refine Kd.C_alloc ?_ _) | (with_reducible refine Kd.C_drewN ?_ _) | (with_reducible refine Kd.C_drew ?_))); (case side4 => exact (Kd.R_reads' HO402.out).2.1); rintro e w' ⟨rfl, ⟨nd, rfl⟩⟩; (try first | exact ⟨rfl, _, World.drewN_drewN _ _ _⟩ | exact ⟨rfl, _, Eq.trans (World.drewN_drewN _ _ _) (congrArg (World.drewN _) (Nat.add_assoc _ _ _))⟩))); try go_wp2_with (first | (go_at_call 43; (with_reducible refine (laws_likeInts.calls k _ _ t395 _ _ t399 true _ ?side1 ?side2 ?side3 ?side4 A26.out).mono ?_); (case side1 => repeat (first | exact (Kd.R_reads' HO398.out).2.2 | (with_reducible refine Kd.C_alloc ?_ _) | (with_reducible refine Kd.C_drewN ?_ _) | (with_reducible refine Kd.C_drew ?_))); (case side2 => exact (Kd.R_reads' HO398.out).2.1); (case side3 => repeat (first | exact (Kd.R_reads' HO402.out).2.2 | (with_reducible refine Kd.C_alloc ?_ _) | (with_reducible refine Kd.C_drewN ?_ _) | (with_reducible refine Kd.C_drew ?_))); (case side4 => exact (Kd.R_reads' HO402.out).2.1); rintro e w' ⟨rfl, ⟨nd, rfl⟩⟩; (try first | exact ⟨rfl, _, World.drewN_drewN _ _ _⟩ | exact ⟨rfl, _, Eq.trans (World.drewN_drewN _ _ _) (congrArg (World.drewN _) (Nat.add_assoc _ _ _))⟩))))
            go_meet
            case rel => exact ⟨_, (true), (by first | rfl | (simp; done) | (simp [*]; done)), H', ⟨by first | omega | exact Nat.le_refl _⟩, ⟨by (with_reducible repeat (first | apply Kd.R_alloc | apply Kd.R_drewN | apply Kd.R_drew)); exact HO392.out⟩, ⟨by (with_reducible repeat (first | apply Kd.R_alloc | apply Kd.R_drewN | apply Kd.R_drew)); exact Kd.R_mono HO398.out (fun _ hk => trivial)⟩, ⟨by repeat (first | (with_reducible first | exact HB.out | apply below_alloc | apply pw_below_drewN | apply below_drew1) | exact HB.out)⟩⟩
        · replace c27 := Bool.eq_false_iff.mpr c27
          subst c27
          have H1 : (laws_FnDone.j0 k t388 t389 t395 t396 t403 t407 t411 true) = some r := by rw [if_neg (show ¬ (false = true) by decide)] at H; exact H
          clear H
          have H := H1
          clear H1
          have H' := Aside0.mk H
          clear H
          obtain ⟨Ao51, co51, eo51⟩ := Kd.R_slice HO398.out
          subst eo51
          obtain ⟨Ao52, co52, eo52⟩ := Kd.R_slice HO402.out
          subst eo52
          go_wp2_with (first | (go_at_call 43; (with_reducible refine (laws_likeInts.calls k _ _ t395 _ _ t399 false _ ?side1 ?side2 ?side3 ?side4 A26.out).mono ?_); (case side1 => repeat (first | exact (Kd.R_reads' HO398.out).2.2 | (with_reducible refine Kd.C_alloc ?_ _) | (with_reducible refine Kd.C_drewN ?_ _) | (with_reducible refine Kd.C_drew ?_))); (case side2 => exact (Kd.R_reads' HO398.out).2.1); (case side3 => repeat (first | exact (Kd.R_reads' HO402.out).2.2 | (with_reducible refine Kd.C_alloc ?_ _) | (with_reducible refine Kd.C_drewN ?_ _) | (with_reducible refine Kd.C_drew ?_))); (case side4 => exact (Kd.R_reads' HO402.out).2.1); rintro e w' ⟨rfl, ⟨nd, rfl⟩⟩; (try first | exact ⟨rfl, _, World.drewN_drewN _ _ _⟩ | exact ⟨rfl, _, Eq.trans (World.drewN_drewN _ _ _) (congrArg (World.drewN _) (Nat.add_assoc _ _ _))⟩)))
          repeat (go_quiet (first | (go_at_call 43; (with_reducible refine (laws_likeInts.calls k _ _ t395 _ _ t399 false _ ?side1 ?side2 ?side3 ?side4 A26.out).mono ?_); (case side1 => repeat (first | exact (Kd.R_reads' HO398.out).2.2 | (with_reducible refine Kd.C_alloc ?_ _) | (with_reducible refine Kd.C_drewN ?_ _) | (with_reducible refine Kd.C_drew ?_))); (case side2 => exact (Kd.R_reads' HO398.out).2.1); (case side3 => repeat (first | exact (Kd.R_reads' HO402.out).2.2 | (with_reducible refine Kd.C_alloc ?_ _) | (with_reducible refine Kd.C_drewN ?_ _) | (with_reducible refine Kd.C_drew ?_))); (case side4 => exact (Kd.R_reads' HO402.out).2.1); rintro e w' ⟨rfl, ⟨nd, rfl⟩⟩; (try first | exact ⟨rfl, _, World.drewN_drewN _ _ _⟩ | exact ⟨rfl, _, Eq.trans (World.drewN_drewN _ _ _) (congrArg (World.drewN _) (Nat.add_assoc _ _ _))⟩))); try go_wp2_with (first | (go_at_call 43; (with_reducible refine (laws_likeInts.calls k _ _ t395 _ _ t399 false _ ?side1 ?side2 ?side3 ?side4 A26.out).mono ?_); (case side1 => repeat (first | exact (Kd.R_reads' HO398.out).2.2 | (with_reducible refine Kd.C_alloc ?_ _) | (with_reducible refine Kd.C_drewN ?_ _) | (with_reducible refine Kd.C_drew ?_))); (case side2 => exact (Kd.R_reads' HO398.out).2.1); (case side3 => repeat (first | exact (Kd.R_reads' HO402.out).2.2 | (with_reducible refine Kd.C_alloc ?_ _) | (with_reducible refine Kd.C_drewN ?_ _) | (with_reducible refine Kd.C_drew ?_))); (case side4 => exact (Kd.R_reads' HO402.out).2.1); rintro e w' ⟨rfl, ⟨nd, rfl⟩⟩; (try first | exact ⟨rfl, _, World.drewN_drewN _ _ _⟩ | exact ⟨rfl, _, Eq.trans (World.drewN_drewN _ _ _) (congrArg (World.drewN _) (Nat.add_assoc _ _ _))⟩))))
          go_meet
          case rel => exact ⟨_, (true), (by first | rfl | (simp; done) | (simp [*]; done)), H', ⟨by first | omega | exact Nat.le_refl _⟩, ⟨by (with_reducible repeat (first | apply Kd.R_alloc | apply Kd.R_drewN | apply Kd.R_drew)); exact HO392.out⟩, ⟨by (with_reducible repeat (first | apply Kd.R_alloc | apply Kd.R_drewN | apply Kd.R_drew)); exact Kd.R_mono HO398.out (fun _ hk => trivial)⟩, ⟨by repeat (first | (with_reducible first | exact HB.out | apply below_alloc | apply pw_below_drewN | apply below_drew1) | exact HB.out)⟩⟩
      · rw [if_neg c25] at H
        have c25b0 : (t396 == t400) = false := beq_eq_false_iff_ne.mpr c25
        have c25b1 : (t396 != t400) = true := bne_iff_ne.mpr c25
        (first | rw [c25b0] | (simp only [i64_w, i32_w]; rw [c25b0]) | skip)
        have H' := Aside0.mk H
        clear H
        go_wp2
        repeat (go_quiet (fail); try go_wp2)
        go_meet
        case rel => exact ⟨_, (true), (by first | rfl | (simp; done) | (simp [*]; done)), H', ⟨by first | omega | exact Nat.le_refl _⟩, ⟨by (with_reducible repeat (first | apply Kd.R_alloc | apply Kd.R_drewN | apply Kd.R_drew)); exact HO392.out⟩, ⟨by (with_reducible repeat (first | apply Kd.R_alloc | apply Kd.R_drewN | apply Kd.R_drew)); exact Kd.R_mono HO398.out (fun _ hk => trivial)⟩, ⟨by repeat (first | (with_reducible first | exact HB.out | apply below_alloc | apply pw_below_drewN | apply below_drew1) | exact HB.out)⟩⟩
    case rest => as_aux_lemma =>
      clear HC13
      try clear c2
      try clear p2
      try clear c3
      try clear c5
      try clear c25
      try clear c25b0
      try clear c25b1
      try clear c27
      try clear c28
      try clear c28b0
      try clear c28b1
      try clear c29
      try clear c29b0
      try clear c29b1
      try clear c30
      try clear c30b0
      try clear c30b1
      try clear c31
      try clear c31b0
      try clear c31b1
      try clear c32
      try clear c32b0
      try clear c32b1
      try clear c33
      try clear c33b0
      try clear c33b1
      try clear c34
      try clear c34b0
      try clear c34b1
      obtain ⟨kq, x138_12, rfl, HA, HJ12, HO_4, HO_6, HB⟩ := hcut
      cases kq with
      | zero => exact absurd HA.out (by simp [laws_FnDone.j0])
      | succ kj12 =>
        have H := HA.out
        clear HA
        simp only [laws_FnDone.j0] at H
        by_cases c53 : x138_12 = true
        · subst c53
          have H1 : (some false) = some r := by rw [if_pos rfl] at H; exact H
          clear H
          have H := H1
          clear H1
          exact absurd ((Option.some.inj H).trans hT.out) (by decide)
        · replace c53 := Bool.eq_false_iff.mpr c53
          subst c53
          have H1 : (if t396 = 0 then (laws_FnDone.j1 kj12 t388 t389 t395 t403 t407 t411 ((t389.length : Int) == 0)) else (laws_FnDone.j1 kj12 t388 t389 t395 t403 t407 t411 true)) = some r := by rw [if_neg (show ¬ (false = true) by decide)] at H; exact H
          clear H
          have H := H1
          clear H1
          have HC54 := Aside0.mk H
          clear H
          go_upto_region 14 with (fail)
          repeat (go_quiet (fail); go_upto_region 14 with (fail))
          go_cut [145] (fun v145 wc => ∃ (kq : Nat) (x145_53 : Bool), v145 = .bool x145_53 ∧ Aside0 (laws_FnDone.j1 kq t388 t389 t395 t403 t407 t411 x145_53 = some r) ∧ Aside0 (kq ≤ kj12) ∧ Aside0 (Kd.R k55 55 wc w.heap.size (fun _ => True) (.slice Ao15 t389.length co15) t389) ∧ Aside0 (Kd.R (Kd.int .i64) 2 wc w.heap.size (fun _ => True) v397 t395) ∧ Aside0 (Below w.heap.size w wc))
          case first => as_aux_lemma =>
            have H := HC54.out
            clear HC54
            by_cases c55 : t396 = 0
            · rw [if_pos c55] at H
              have c55b0 : (t396 == 0) = true := beq_iff_eq.mpr c55
              have c55b1 : (t396 != 0) = false := bne_eq_false_iff_eq.mpr c55
              clear c55
              (first | rw [c55b0] | (simp only [i64_w, i32_w]; rw [c55b0]) | skip)
              have H' := Aside0.mk H
              clear H
              go_wp2
              repeat (go_quiet (fail); try go_wp2)
              go_meet
              case rel => exact ⟨_, (((t389.length : Int) == 0)), (by first | rfl | (simp; done) | (simp [*]; done)), H', ⟨by have := HJ12.out; first | omega | exact Nat.le_refl _⟩, ⟨by (with_reducible repeat (first | apply Kd.R_alloc | apply Kd.R_drewN | apply Kd.R_drew)); exact HO_4.out⟩, ⟨by (with_reducible repeat (first | apply Kd.R_alloc | apply Kd.R_drewN | apply Kd.R_drew)); exact HO_6.out⟩, ⟨by repeat (first | (with_reducible first | exact HB.out | apply below_alloc | apply pw_below_drewN | apply below_drew1) | exact HB.out)⟩⟩
            · rw [if_neg c55] at H
              have c55b0 : (t396 == 0) = false := beq_eq_false_iff_ne.mpr c55
              have c55b1 : (t396 != 0) = true := bne_iff_ne.mpr c55
              (first | rw [c55b0] | (simp only [i64_w, i32_w]; rw [c55b0]) | skip)
              have H' := Aside0.mk H
              clear H
              go_wp2
              repeat (go_quiet (fail); try go_wp2)
              go_meet
              case rel => exact ⟨_, (true), (by first | rfl | (simp; done) | (simp [*]; done)), H', ⟨by have := HJ12.out; first | omega | exact Nat.le_refl _⟩, ⟨by (with_reducible repeat (first | apply Kd.R_alloc | apply Kd.R_drewN | apply Kd.R_drew)); exact HO_4.out⟩, ⟨by (with_reducible repeat (first | apply Kd.R_alloc | apply Kd.R_drewN | apply Kd.R_drew)); exact HO_6.out⟩, ⟨by repeat (first | (with_reducible first | exact HB.out | apply below_alloc | apply pw_below_drewN | apply below_drew1) | exact HB.out)⟩⟩
          case rest => as_aux_lemma =>
            clear HC54
            try clear c2
            try clear p2
            try clear c3
            try clear c5
            try clear c25
            try clear c25b0
            try clear c25b1
            try clear c27
            try clear c28
            try clear c28b0
            try clear c28b1
            try clear c29
            try clear c29b0
            try clear c29b1
            try clear c30
            try clear c30b0
            try clear c30b1
            try clear c31
            try clear c31b0
            try clear c31b1
            try clear c32
            try clear c32b0
            try clear c32b1
            try clear c33
            try clear c33b0
            try clear c33b1
            try clear c34
            try clear c34b0
            try clear c34b1
            try clear c53
            try clear c55
            try clear c55b0
            try clear c55b1
            try clear p2
            obtain ⟨kq, x145_53, rfl, HA, HJ53, HO_4, HO_6, HB⟩ := hcut
            cases kq with
            | zero => exact absurd HA.out (by simp [laws_FnDone.j1])
            | succ kj53 =>
              have H := HA.out
              clear HA
              simp only [laws_FnDone.j1] at H
              by_cases c56 : x145_53 = true
              · subst c56
                have H1 : (some true) = some r := by rw [if_pos rfl] at H; exact H
                clear H
                have H := H1
                clear H1
                obtain rfl := Option.some.inj H
                go_wp2
                repeat (go_quiet (fail); try go_wp2)
                go_ret
                exact ⟨by first | rfl | (simp [errW_none, errW_some] <;> rfl) | (simp [*, errW_none, errW_some] <;> rfl), by repeat (first | (with_reducible first | exact HB.out | apply below_alloc | apply pw_below_drewN | apply below_drew1) | exact HB.out)⟩
              · replace c56 := Bool.eq_false_iff.mpr c56
                subst c56
                have H1 : (laws_FnDone.l0 kj53 t389 t395 t403 t407 t411 0 (wrap64 (t403 * t388)) 0 0) = some r := by rw [if_neg (show ¬ (false = true) by decide)] at H; exact H
                clear H
                have H := H1
                clear H1
                have H' := Aside0.mk H
                clear H
                go_wp2
                repeat (go_quiet (fail); try go_wp2)
                go_loopg [22, 23, 24, 25] kj53 (fun kq v22 v23 v24 v25 w' => ∃ (x22_3 : Int) (x23_3 : Int) (x24_3 : Int) (x25_3 : Int), v22 = .int .i64 x22_3 ∧ v23 = .int .i64 x23_3 ∧ v24 = .int .i64 x24_3 ∧ v25 = .int .i64 x25_3 ∧ Aside0 (laws_FnDone.l0 kq t389 t395 t403 t407 t411 x22_3 x23_3 x24_3 x25_3 = some r) ∧ Aside0 (kq ≤ kj53) ∧ Aside0 (Kd.R k55 55 w' w.heap.size (fun _ => True) (.slice Ao15 t389.length co15) t389) ∧ Aside0 (Kd.R (Kd.int .i64) 2 w' w.heap.size (fun _ => True) v397 t395) ∧ Aside0 (Below w.heap.size w w'))
                case atStart => exact ⟨(0), (wrap64 (t403 * t388)), (0), (0), (by first | rfl | (simp; done) | (simp [*]; done)), (by first | rfl | (simp; done) | (simp [*]; done)), (by first | rfl | (simp; done) | (simp [*]; done)), (by first | rfl | (simp; done) | (simp [*]; done)), H', ⟨Nat.le_refl _⟩, ⟨by (with_reducible repeat (first | apply Kd.R_alloc | apply Kd.R_drewN | apply Kd.R_drew)); exact HO_4.out⟩, ⟨by (with_reducible repeat (first | apply Kd.R_alloc | apply Kd.R_drewN | apply Kd.R_drew)); exact HO_6.out⟩, ⟨by repeat (first | (with_reducible first | exact HB.out | apply below_alloc | apply pw_below_drewN | apply below_drew1) | exact HB.out)⟩⟩
                case round =>
                  clear H'
                  try clear c2
                  try clear p2
                  try clear c3
                  try clear c5
                  try clear p6
                  try clear c25
                  try clear c25b0
                  try clear c25b1
                  try clear c27
                  try clear c28
                  try clear c28b0
                  try clear c28b1
                  try clear c29
                  try clear c29b0
                  try clear c29b1
                  try clear c30
                  try clear c30b0
                  try clear c30b1
                  try clear c31
                  try clear c31b0
                  try clear c31b1
                  try clear c32
                  try clear c32b0
                  try clear c32b1
                  try clear c33
                  try clear c33b0
                  try clear c33b1
                  try clear c34
                  try clear c34b0
                  try clear c34b1
                  try clear c53
                  try clear c55
                  try clear c55b0
                  try clear c55b1
                  try clear c56
                  try clear p2
                  obtain ⟨x22_3, x23_3, x24_3, x25_3, rfl, rfl, rfl, rfl, HA, HK3, HO_4, HO_6, HB⟩ := hrel
                  cases gk with
                  | zero => exact absurd HA.out (by simp [laws_FnDone.l0])
                  | succ k3 =>
                    have H := HA.out
                    clear HA
                    simp only [laws_FnDone.l0] at H
                    by_cases c57 : x25_3 < (t389.length : Int)
                    · rw [if_pos c57] at H
                      have c57b0 : decide (x25_3 < (t389.length : Int)) = true := decide_eq_true c57
                      clear c57
                      by_cases c58 : 0 ≤ x25_3
                      · rw [if_pos c58] at H
                        have c58b0 : decide (0 ≤ x25_3) = true := decide_eq_true c58
                        clear c58
                        by_cases c59 : x25_3 < (t395.length : Int)
                        · rw [if_pos c59] at H
                          have c59b0 : decide (x25_3 < (t395.length : Int)) = true := decide_eq_true c59
                          clear c59
                          obtain ⟨ji60, hji60⟩ : ∃ j_ : Int, (mx x22_3 (rd t395 x25_3)) = j_ := ⟨_, rfl⟩
                          replace H : (if (wrap64 ((rd t395 x25_3) - ((rd_T55 t389 x25_3).f2))) > t411 then (some false) else (laws_FnDone.l0 k3 t389 t395 t403 t407 t411 ji60 (wrap64 (x23_3 + ((rd_T55 t389 x25_3).f1))) (wrap64 (x24_3 + (mx 0 (wrap64 ((rd t395 x25_3) - ((rd_T55 t389 x25_3).f2)))))) (wrap64 (x25_3 + 1)))) = some r := by first | (rw [hji60] at H; exact H) | (simp only [hji60] at H ⊢; exact H)
                          have hji60_ : (if x22_3 < (rd t395 x25_3) then (rd t395 x25_3) else x22_3) = ji60 := hji60
                          obtain ⟨ji61, hji61⟩ : ∃ j_ : Int, (mx 0 (wrap64 ((rd t395 x25_3) - ((rd_T55 t389 x25_3).f2)))) = j_ := ⟨_, rfl⟩
                          replace H : (if (wrap64 ((rd t395 x25_3) - ((rd_T55 t389 x25_3).f2))) > t411 then (some false) else (laws_FnDone.l0 k3 t389 t395 t403 t407 t411 ji60 (wrap64 (x23_3 + ((rd_T55 t389 x25_3).f1))) (wrap64 (x24_3 + (ji61))) (wrap64 (x25_3 + 1)))) = some r := by first | (rw [hji61] at H; exact H) | (simp only [hji61] at H ⊢; exact H)
                          have hji61_ : (if 0 < (wrap64 ((rd t395 x25_3) - ((rd_T55 t389 x25_3).f2))) then (wrap64 ((rd t395 x25_3) - ((rd_T55 t389 x25_3).f2))) else 0) = ji61 := hji61
                          by_cases c62 : (wrap64 ((rd t395 x25_3) - ((rd_T55 t389 x25_3).f2))) > t411
                          · rw [if_pos c62] at H
                            have c62b0 : decide (t411 < (wrap64 ((rd t395 x25_3) - ((rd_T55 t389 x25_3).f2)))) = true := decide_eq_true c62
                            clear c62
                            exact absurd ((Option.some.inj H).trans hT.out) (by decide)
                          · rw [if_neg c62] at H
                            have c62b0 : decide (t411 < (wrap64 ((rd t395 x25_3) - ((rd_T55 t389 x25_3).f2)))) = false := decide_eq_false c62
                            clear c62
                            have H' := Aside0.mk H
                            clear H
                            obtain ⟨Ao63, co63, eo63⟩ := Kd.R_slice HO_6.out
                            subst eo63
                            have p416 : 0 ≤ (x25_3 : Int) := of_decide_eq_true (by first | (with_reducible assumption) | assumption)
                            have q416 : x25_3 < (t395.length : Int) := of_decide_eq_true (by first | (with_reducible assumption) | assumption)
                            obtain ⟨ad416, e416, hx416_0⟩ := Kd.at_int (Kd.R_reads' HO_6.out).2.2 x25_3 p416 q416
                            cases e416
                            replace p416 := eq_true p416
                            replace q416 := eq_true q416
                            have p417 : 0 ≤ (x25_3 : Int) := of_decide_eq_true (by first | (with_reducible assumption) | assumption)
                            have q417 : x25_3 < (t389.length : Int) := of_decide_eq_true (by first | (with_reducible assumption) | assumption)
                            obtain ⟨ad417, e417, hx417_0, hx417_1, hx417_2⟩ := at_T55 (Kd.R_reads' HO_4.out).2.2 x25_3 p417 q417
                            cases e417
                            replace p417 := eq_true p417
                            replace q417 := eq_true q417
                            have p418 : 0 ≤ (x25_3 : Int) := of_decide_eq_true (by first | (with_reducible assumption) | assumption)
                            have q418 : x25_3 < (t395.length : Int) := of_decide_eq_true (by first | (with_reducible assumption) | assumption)
                            obtain ⟨ad418, e418, hx418_0⟩ := Kd.at_int (Kd.R_reads' HO_6.out).2.2 x25_3 p418 q418
                            obtain rfl : ad416 = ad418 := (by injection e418)
                            replace p418 := eq_true p418
                            replace q418 := eq_true q418
                            have p419 : 0 ≤ (x25_3 : Int) := of_decide_eq_true (by first | (with_reducible assumption) | assumption)
                            have q419 : x25_3 < (t389.length : Int) := of_decide_eq_true (by first | (with_reducible assumption) | assumption)
                            obtain ⟨ad419, e419, hx419_0, hx419_1, hx419_2⟩ := at_T55 (Kd.R_reads' HO_4.out).2.2 x25_3 p419 q419
                            obtain rfl : ad417 = ad419 := (by injection e419)
                            replace p419 := eq_true p419
                            replace q419 := eq_true q419
                            have p420 : 0 ≤ (x25_3 : Int) := of_decide_eq_true (by first | (with_reducible assumption) | assumption)
                            have q420 : x25_3 < (t395.length : Int) := of_decide_eq_true (by first | (with_reducible assumption) | assumption)
                            obtain ⟨ad420, e420, hx420_0⟩ := Kd.at_int (Kd.R_reads' HO_6.out).2.2 x25_3 p420 q420
                            obtain rfl : ad416 = ad420 := (by injection e420)
                            replace p420 := eq_true p420
                            replace q420 := eq_true q420
                            have p421 : 0 ≤ (x25_3 : Int) := of_decide_eq_true (by first | (with_reducible assumption) | assumption)
                            have q421 : x25_3 < (t389.length : Int) := of_decide_eq_true (by first | (with_reducible assumption) | assumption)
                            obtain ⟨ad421, e421, hx421_0, hx421_1, hx421_2⟩ := at_T55 (Kd.R_reads' HO_4.out).2.2 x25_3 p421 q421
                            obtain rfl : ad417 = ad421 := (by injection e421)
                            replace p421 := eq_true p421
                            replace q421 := eq_true q421
                            go_wp2
                            repeat (go_quiet (fail); try go_wp2)
                            go_roundg k3
                            case measure => have := HJ12.out; have := HJ53.out; have := HK3.out; omega
                            case rel => exact ⟨(ji60), (wrap64 (x23_3 + ((rd_T55 t389 x25_3).f1))), (wrap64 (x24_3 + (ji61))), (wrap64 (x25_3 + 1)), (by first | rfl | (simp; done) | (simp only [← hji60] <;> (first | rfl | simp)) | (simp [*]; done)), (by first | rfl | (simp; done) | (simp [*]; done)), (by first | rfl | (simp; done) | (simp only [← hji61] <;> (first | rfl | simp)) | (simp [*]; done)), (by first | rfl | (simp; done) | (simp [*]; done)), H', ⟨by have := HJ12.out; have := HJ53.out; have := HK3.out; omega⟩, ⟨by (with_reducible repeat (first | apply Kd.R_alloc | apply Kd.R_drewN | apply Kd.R_drew)); exact HO_4.out⟩, ⟨by (with_reducible repeat (first | apply Kd.R_alloc | apply Kd.R_drewN | apply Kd.R_drew)); exact HO_6.out⟩, ⟨by repeat (first | (with_reducible first | exact HB.out | apply below_alloc | apply pw_below_drewN | apply below_drew1) | exact HB.out)⟩⟩
                        · rw [if_neg c59] at H
                          exact absurd H (by simp)
                      · rw [if_neg c58] at H
                        exact absurd H (by simp)
                    · rw [if_neg c57] at H
                      have c57b0 : decide (x25_3 < (t389.length : Int)) = false := decide_eq_false c57
                      clear c57
                      by_cases c64 : x22_3 = x23_3
                      · rw [if_pos c64] at H
                        have c64b0 : (x22_3 == x23_3) = true := beq_iff_eq.mpr c64
                        have c64b1 : (x22_3 != x23_3) = false := bne_eq_false_iff_eq.mpr c64
                        clear c64
                        by_cases c65 : x24_3 = t407
                        · rw [if_pos c65] at H
                          have c65b0 : (x24_3 == t407) = true := beq_iff_eq.mpr c65
                          have c65b1 : (x24_3 != t407) = false := bne_eq_false_iff_eq.mpr c65
                          clear c65
                          by_cases c66 : t403 ≥ 1
                          · rw [if_pos c66] at H
                            have c66b0 : decide (1 ≤ t403) = true := decide_eq_true c66
                            clear c66
                            obtain rfl := Option.some.inj H
                            go_wp2
                            repeat (go_quiet (fail); try go_wp2)
                            go_ret
                            exact ⟨by first | rfl | (simp [errW_none, errW_some] <;> rfl) | (simp [*, errW_none, errW_some] <;> rfl), by repeat (first | (with_reducible first | exact HB.out | apply below_alloc | apply pw_below_drewN | apply below_drew1) | exact HB.out)⟩
                          · rw [if_neg c66] at H
                            have c66b0 : decide (1 ≤ t403) = false := decide_eq_false c66
                            clear c66
                            exact absurd ((Option.some.inj H).trans hT.out) (by decide)
                        · rw [if_neg c65] at H
                          have c65b0 : (x24_3 == t407) = false := beq_eq_false_iff_ne.mpr c65
                          have c65b1 : (x24_3 != t407) = true := bne_iff_ne.mpr c65
                          exact absurd ((Option.some.inj H).trans hT.out) (by decide)
                      · rw [if_neg c64] at H
                        have c64b0 : (x22_3 == x23_3) = false := beq_eq_false_iff_ne.mpr c64
                        have c64b1 : (x22_3 != x23_3) = true := bne_iff_ne.mpr c64
                        exact absurd ((Option.some.inj H).trans hT.out) (by decide)

/-- The one pure statement of laws_FnDone. -/
def laws_FnDone.Pure : Prop := ∀ (l0 : List Int), l0.length * 1 ≤ 140737488351232 → (∀ x ∈ l0, (Lit.int .u8 x).wf = true) → ∃ k, laws_FnDone.f k l0 = some true
theorem laws_FnDone.walk (P : laws_FnDone.Pure) (A0 : Option Addr) (c0 : Nat) (l0 : List Int) (w : World) (w0_0 : l0.length * 1 ≤ 140737488351232) (w0_1 : (∀ x ∈ l0, (Lit.int .u8 x).wf = true)) (hr0 : Kd.C (Kd.int .u8) w A0 l0.length l0) (hc0 : l0.length ≤ c0) :
    Calls Try.prog 5 #[.slice A0 l0.length c0] w fun e w' => e = .returned (.bool true) ∧ Below w.heap.size w w' := by
  obtain ⟨k, h⟩ := P l0 w0_0 w0_1
  refine (laws_FnDone.calls k A0 c0 l0 true w ⟨rfl⟩ hr0 hc0 h).mono ?_
  rintro e w' ⟨rfl, hd⟩
  exact ⟨rfl, hd⟩

end Go.Proofs.Ytefnoiajfjbbpaa.PFnDone
