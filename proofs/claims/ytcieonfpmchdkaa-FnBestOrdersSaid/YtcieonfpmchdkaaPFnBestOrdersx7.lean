-- Printed by the session (wip/myprint.py).
import Derived.Test.YtcieonfpmchdkaaPFnBestOrdersx0
import Derived.Test.YtcieonfpmchdkaaPFnBestOrdersx4
import Derived.Test.YtcieonfpmchdkaaPFnBestOrdersx5
import Derived.Test.YtcieonfpmchdkaaPFnBestOrdersx6
namespace Go.Proofs.Ytcieonfpmchdkaa.PFnBestOrders
open Go.RowKit Go.Proofs.YtcieonfpmchdkaaW.PrintWords Go.Proofs.YtcieonfpmchdkaaW.PrintLast Go.Proofs.YtcieonfpmchdkaaW.PrintMore
attribute [local go_sem] max2_int min2_int max_two min_two max_three min_three max_four min_four   -- for this text's walks alone
set_option linter.unusedVariables false
set_option linter.unusedSimpArgs false

-- NOT PRINTED: slices_symMergeCmpFunc_at_impl_FamilyOrder_1

/-! ### slices_stableCmpFunc_at_impl_FamilyOrder_1: function 86 -/
mutual
def slices_stableCmpFunc_at_impl_FamilyOrder_1.l0 : Nat → List Int → Int → List (S56) → Int → Int → Int → Option (List Int)
 | 0, _, _, _, _, _, _ => none
 | k + 1, x0, x1, x2, x6, x7, x8 => if x8 ≤ x1 then ((slices_insertionSortCmpFunc_at_impl_FamilyOrder_1.f k x0 x7 x8 x2).bind fun t204 => (slices_stableCmpFunc_at_impl_FamilyOrder_1.l0 k t204 x1 x2 x6 x8 (wrap64 (x8 + x6)))) else ((slices_insertionSortCmpFunc_at_impl_FamilyOrder_1.f k x0 x7 x1 x2).bind fun t205 => (slices_stableCmpFunc_at_impl_FamilyOrder_1.l1 k t205 x1 x6))
def slices_stableCmpFunc_at_impl_FamilyOrder_1.l1 : Nat → List Int → Int → Int → Option (List Int)
 | 0, _, _, _ => none
 | k + 1, x0, x1, x6 => if x6 < x1 then (slices_stableCmpFunc_at_impl_FamilyOrder_1.l2 k x0 x1 x6 0 (wrap64 (2 * x6))) else (some x0)
def slices_stableCmpFunc_at_impl_FamilyOrder_1.l2 : Nat → List Int → Int → Int → Int → Int → Option (List Int)
 | 0, _, _, _, _, _ => none
 | k + 1, x0, x1, x6, x7, x8 => if x8 ≤ x1 then (none) else (if (wrap64 (x7 + x6)) < x1 then (none) else (slices_stableCmpFunc_at_impl_FamilyOrder_1.l1 k x0 x1 (wrap64 (x6 * 2))))
end
def slices_stableCmpFunc_at_impl_FamilyOrder_1.f (k : Nat) (l0 : List Int) (a1 : Int) (l2 : List (S56)) : Option (List Int) := slices_stableCmpFunc_at_impl_FamilyOrder_1.l0 k l0 a1 l2 20 0 20
theorem slices_stableCmpFunc_at_impl_FamilyOrder_1.mono_l : ∀ k, (∀ y0 y1 y2 y3 y4 y5, LeO (slices_stableCmpFunc_at_impl_FamilyOrder_1.l0 k y0 y1 y2 y3 y4 y5) (slices_stableCmpFunc_at_impl_FamilyOrder_1.l0 (k + 1) y0 y1 y2 y3 y4 y5)) ∧ (∀ y0 y1 y2, LeO (slices_stableCmpFunc_at_impl_FamilyOrder_1.l1 k y0 y1 y2) (slices_stableCmpFunc_at_impl_FamilyOrder_1.l1 (k + 1) y0 y1 y2)) ∧ (∀ y0 y1 y2 y3 y4, LeO (slices_stableCmpFunc_at_impl_FamilyOrder_1.l2 k y0 y1 y2 y3 y4) (slices_stableCmpFunc_at_impl_FamilyOrder_1.l2 (k + 1) y0 y1 y2 y3 y4))
 | 0 => ⟨fun _ _ _ _ _ _ r h => by simp [slices_stableCmpFunc_at_impl_FamilyOrder_1.l0] at h, fun _ _ _ r h => by simp [slices_stableCmpFunc_at_impl_FamilyOrder_1.l1] at h, fun _ _ _ _ _ r h => by simp [slices_stableCmpFunc_at_impl_FamilyOrder_1.l2] at h⟩
 | k + 1 => by
  obtain ⟨ih0, ih1, ih2⟩ := slices_stableCmpFunc_at_impl_FamilyOrder_1.mono_l k
  refine ⟨?_, ?_, ?_⟩
  ·
   intro y0 y1 y2 y3 y4 y5
   unfold slices_stableCmpFunc_at_impl_FamilyOrder_1.l0
   repeat' first
   | (with_reducible exact ih0 _ _ _ _ _ _)
   | (with_reducible exact ih1 _ _ _)
   | (with_reducible exact ih2 _ _ _ _ _)
   | (with_reducible exact slices_insertionSortCmpFunc_at_impl_FamilyOrder_1.mono _ _ _ _ _)
   | (with_reducible exact LeO.refl _)
   | (with_reducible exact LeO.none _)
   | (with_reducible refine LeO.ite ?_ ?_)
   | (with_reducible refine LeO.bind ?_ (fun _ => ?_))
   | exact ih0 _ _ _ _ _ _
   | exact ih1 _ _ _
   | exact ih2 _ _ _ _ _
   | exact slices_insertionSortCmpFunc_at_impl_FamilyOrder_1.mono _ _ _ _ _
   | exact LeO.none _
   | refine LeO.ite ?_ ?_
   | refine LeO.bind ?_ (fun _ => ?_)
  ·
   intro y0 y1 y2
   unfold slices_stableCmpFunc_at_impl_FamilyOrder_1.l1
   repeat' first
   | (with_reducible exact ih0 _ _ _ _ _ _)
   | (with_reducible exact ih1 _ _ _)
   | (with_reducible exact ih2 _ _ _ _ _)
   | (with_reducible exact slices_insertionSortCmpFunc_at_impl_FamilyOrder_1.mono _ _ _ _ _)
   | (with_reducible exact LeO.refl _)
   | (with_reducible exact LeO.none _)
   | (with_reducible refine LeO.ite ?_ ?_)
   | (with_reducible refine LeO.bind ?_ (fun _ => ?_))
   | exact ih0 _ _ _ _ _ _
   | exact ih1 _ _ _
   | exact ih2 _ _ _ _ _
   | exact slices_insertionSortCmpFunc_at_impl_FamilyOrder_1.mono _ _ _ _ _
   | exact LeO.none _
   | refine LeO.ite ?_ ?_
   | refine LeO.bind ?_ (fun _ => ?_)
  ·
   intro y0 y1 y2 y3 y4
   unfold slices_stableCmpFunc_at_impl_FamilyOrder_1.l2
   repeat' first
   | (with_reducible exact ih0 _ _ _ _ _ _)
   | (with_reducible exact ih1 _ _ _)
   | (with_reducible exact ih2 _ _ _ _ _)
   | (with_reducible exact slices_insertionSortCmpFunc_at_impl_FamilyOrder_1.mono _ _ _ _ _)
   | (with_reducible exact LeO.refl _)
   | (with_reducible exact LeO.none _)
   | (with_reducible refine LeO.ite ?_ ?_)
   | (with_reducible refine LeO.bind ?_ (fun _ => ?_))
   | exact ih0 _ _ _ _ _ _
   | exact ih1 _ _ _
   | exact ih2 _ _ _ _ _
   | exact slices_insertionSortCmpFunc_at_impl_FamilyOrder_1.mono _ _ _ _ _
   | exact LeO.none _
   | refine LeO.ite ?_ ?_
   | refine LeO.bind ?_ (fun _ => ?_)
theorem slices_stableCmpFunc_at_impl_FamilyOrder_1.mono : ∀ a0 a1 a2 k, LeO (slices_stableCmpFunc_at_impl_FamilyOrder_1.f k a0 a1 a2) (slices_stableCmpFunc_at_impl_FamilyOrder_1.f (k + 1) a0 a1 a2) := by
 intro a0 a1 a2 k
 obtain ⟨ih0, ih1, ih2⟩ := slices_stableCmpFunc_at_impl_FamilyOrder_1.mono_l k
 unfold slices_stableCmpFunc_at_impl_FamilyOrder_1.f
 repeat' first
   | (with_reducible exact ih0 _ _ _ _ _ _)
   | (with_reducible exact ih1 _ _ _)
   | (with_reducible exact ih2 _ _ _ _ _)
   | (with_reducible exact slices_insertionSortCmpFunc_at_impl_FamilyOrder_1.mono _ _ _ _ _)
   | (with_reducible exact LeO.refl _)
   | (with_reducible exact LeO.none _)
   | (with_reducible refine LeO.ite ?_ ?_)
   | (with_reducible refine LeO.bind ?_ (fun _ => ?_))
   | exact ih0 _ _ _ _ _ _
   | exact ih1 _ _ _
   | exact ih2 _ _ _ _ _
   | exact slices_insertionSortCmpFunc_at_impl_FamilyOrder_1.mono _ _ _ _ _
   | exact LeO.none _
   | refine LeO.ite ?_ ?_
   | refine LeO.bind ?_ (fun _ => ?_)
set_option maxHeartbeats 8000000 in
set_option maxRecDepth 100000 in
theorem slices_stableCmpFunc_at_impl_FamilyOrder_1.calls (k : Nat) (P0_ : Nat → Prop) (u9000_ : Value) (l0 : List Int) (a1 : Int) (cp2 cq2 : Addr) (A2 : Option Addr) (c2 : Nat) (l2 : List (S56)) (r : List Int) (w0 w : World) (hB : Below w0.heap.size w0 w) (ho0 : Kd.R (Kd.int .i64) 2 w w0.heap.size P0_ u9000_ l0) (hr2 : ∀ W_, Kept w W_ (fun k_ => P0_ k_) → Kd.C k56 W_ A2 l2.length l2) (hc2 : l2.length ≤ c2) (hcp2 : ∀ W_, Kept w W_ (fun k_ => P0_ k_) → W_.cell? cp2 = some (.slice A2 l2.length c2)) (hcq2 : ∀ W_, Kept w W_ (fun k_ => P0_ k_) → MapAt W_ cq2 l2) (h : slices_stableCmpFunc_at_impl_FamilyOrder_1.f k l0 a1 l2 = some r) :
  Calls Try.prog 86 #[u9000_, .int .i64 a1, .func (.func 46) #[] #[.pointer (some cp2), .pointer (some cq2)]] w fun e w' => e = .returned (.tuple #[]) ∧ Kd.R (Kd.int .i64) 2 w' w0.heap.size (fun k_ => (P0_ k_ ∨ w.heap.size ≤ k_)) u9000_ r ∧ Below w0.heap.size w0 w' ∧ Kept w w' (fun k_ => P0_ k_) := by
 have HCQ2 := Aside0.mk hcq2
 clear hcq2
 have HCP2 := Aside0.mk hcp2
 clear hcp2
 have hcx2 := HCP2.out _ (Kept.refl w _)
 have HO0 := Aside0.mk (show Kd.R (Kd.int .i64) 2 w w0.heap.size (fun k_ => (P0_ k_ ∨ w.heap.size ≤ k_)) u9000_ l0 from Kd.R_mono ho0 (fun k_ hk => (.inl hk)))
 have HR2 := Aside0.mk hr2
 have HC2 := Aside0.mk hc2
 clear hr2 hc2
 have HK := Aside0.mk (Kept.refl w (fun k_ => P0_ k_))
 have HW0 := Aside0.mk hB.size
 have HB := Aside0.mk hB
 clear hB
 have H : (slices_stableCmpFunc_at_impl_FamilyOrder_1.l0 k l0 a1 l2 20 0 20) = some r := h
 clear h
 have H' := Aside0.mk H
 clear H
 go_enter Try.func86, Try.ntmps86
 go_wp2
 (try simp only [Act.put, lS_, lZ_, lC_])
 go_loopg [7, 8] k (fun kq v7 v8 w' => ∃ (x0_1 : List Int) (x7_1 : Int) (x8_1 : Int), v7 = .int .i64 x7_1 ∧ v8 = .int .i64 x8_1 ∧ Aside0 (slices_stableCmpFunc_at_impl_FamilyOrder_1.l0 kq x0_1 a1 l2 20 x7_1 x8_1 = some r) ∧ Aside0 (kq ≤ k) ∧ Aside0 (Kd.R (Kd.int .i64) 2 w' w0.heap.size (fun k_ => (P0_ k_ ∨ w.heap.size ≤ k_)) u9000_ x0_1) ∧ Aside0 (Kept w w' (fun k_ => P0_ k_)) ∧ Aside0 (Below w0.heap.size w0 w'))
 case atStart => exact ⟨(l0), (0), (20), (by first | rfl | (simp; done) | (simp [*]; done)), (by first | rfl | (simp; done) | (simp [*]; done)), H', ⟨Nat.le_refl _⟩, ⟨by (with_reducible repeat (first | apply rA_ | apply rN_ | apply rW_)); exact HO0.out⟩, ⟨by repeat (first | (with_reducible first | exact HK.out | apply Kept.alloc | apply Kept.drewN | apply Kept.drew) | exact HK.out)⟩, ⟨by repeat (first | (with_reducible first | exact HB.out | apply bA_ | apply bN_ | apply bW_) | exact HB.out)⟩⟩
 case round =>
  clear H'
  try clear c2
  obtain ⟨x0_1, x7_1, x8_1, rfl, rfl, HA, HK1, HO_0, HK, HB⟩ := hrel
  (try have hcx2 := HCP2.out _ HK.out)
  cases gk with
  | zero => exact absurd HA.out (by simp [slices_stableCmpFunc_at_impl_FamilyOrder_1.l0])
  | succ k1 =>
   have H := HA.out
   clear HA
   simp only [slices_stableCmpFunc_at_impl_FamilyOrder_1.l0] at H
   by_cases c4 : x8_1 ≤ a1
   ·
    rw [if_pos c4] at H
    have c4b0 : decide (x8_1 ≤ a1) = true := decide_eq_true c4
    clear c4
    replace H := Option.bind_eq_some_iff.mp H
    obtain ⟨t204, A50, H⟩ := H
    (try dsimp only at H)
    have A5 := Aside0.mk A50
    clear A50
    have H' := Aside0.mk H
    clear H
    obtain ⟨Ao6, co6, eo6⟩ := Kd.R_slice HO_0.out
    subst eo6
    go_wp2_with (first | ((with_reducible refine gate_callee (f := 88) rfl ?_); refine goesL_ (some 18) rfl rfl Try.func88 (by kernel_rfl) rfl #[.slice Ao6 x0_1.length co6, .int .i64 x7_1, .int .i64 x8_1, .func (.func 46) #[] #[.pointer (some (cp2)), .pointer (some (cq2))]] rfl (by (try simp only [List.map_toArray, List.map_cons, List.map_nil]); first | done | rfl | (simp only [List.length_drop, List.length_take]; rfl)) ?_; (with_reducible refine (slices_insertionSortCmpFunc_at_impl_FamilyOrder_1.calls (cp3 := cp2) (hcp3 := ?sidecp) (cq3 := cq2) (hcq3 := ?sidecq) k1 (fun k_ => some k_ = (.slice Ao6 x0_1.length co6 : Value).ownBlock) (.slice Ao6 x0_1.length co6) x0_1 x7_1 x8_1 A2 c2 l2 t204 w0 _ ?side1 ?side2 ?side3 ?side4 A5.out).mono ?_); (case sidecp => exact fun W_ hk_ => HCP2.out W_ (Kept.then_ (S := (fun k_ => P0_ k_)) (by repeat (first | (with_reducible first | exact HK.out | apply Kept.alloc | apply Kept.drewN | apply Kept.drew) | exact HK.out)) hk_ (fun k_ hs_ => (fun e_ => (HO_0.out.1 k_ e_.symm)) hs_))); (case sidecq => exact fun W_ hk_ => HCQ2.out W_ (Kept.then_ (S := (fun k_ => P0_ k_)) (by repeat (first | (with_reducible first | exact HK.out | apply Kept.alloc | apply Kept.drewN | apply Kept.drew) | exact HK.out)) hk_ (fun k_ hs_ => (fun e_ => (HO_0.out.1 k_ e_.symm)) hs_))); (case side1 => repeat (first | (with_reducible first | exact HB.out | apply bA_ | apply bN_ | apply bW_) | exact HB.out)); (case side2 => exact Kd.R_tight rfl HO_0.out); (case side3 => exact Kd.C_kept_call HR2.out (by repeat (first | (with_reducible first | exact HK.out | apply Kept.alloc | apply Kept.drewN | apply Kept.drew) | exact HK.out)) (fun k_ hs_ => (fun e_ => (HO_0.out.1 k_ e_.symm)) hs_)); (case side4 => exact HC2.out); rintro e w7 ⟨rfl, hy0, hb, hkp⟩; refine ⟨_, rfl, ?_⟩; have n0_ := Aside0.mk (Kd.R_reok rfl hy0 (fun k_ e_ => HO_0.out.1 k_ e_)); have n1_ := Aside0.mk (Kept.then_ (S := (fun k_ => P0_ k_)) (by repeat (first | (with_reducible first | exact HK.out | apply Kept.alloc | apply Kept.drewN | apply Kept.drew) | exact HK.out)) hkp (fun k_ hs_ => (fun e_ => (HO_0.out.1 k_ e_.symm)) hs_)); have n2_ := Aside0.mk (hb); clear HO_0; clear HK; clear HB; have HO_0 := n0_; have HK := n1_; (try have hcx2 := HCP2.out _ HK.out); have HB := n2_; clear n0_ n1_ n2_; (try clear hb); (try clear hkp); (try clear hy0)))
    go_roundg k1
    case measure => have := HK1.out; omega
    case rel => exact ⟨(t204), (x8_1), (wrap64 (x8_1 + 20)), (by first | rfl | (simp; done) | (simp [*]; done)), (by first | rfl | (simp; done) | (simp [*]; done)), H', ⟨by have := HK1.out; omega⟩, ⟨by (with_reducible repeat (first | apply rA_ | apply rN_ | apply rW_)); exact HO_0.out⟩, ⟨by repeat (first | (with_reducible first | exact HK.out | apply Kept.alloc | apply Kept.drewN | apply Kept.drew) | exact HK.out)⟩, ⟨by repeat (first | (with_reducible first | exact HB.out | apply bA_ | apply bN_ | apply bW_) | exact HB.out)⟩⟩
   ·
    rw [if_neg c4] at H
    have c4b0 : decide (x8_1 ≤ a1) = false := decide_eq_false c4
    clear c4
    replace H := Option.bind_eq_some_iff.mp H
    obtain ⟨t205, A80, H⟩ := H
    (try dsimp only at H)
    have A8 := Aside0.mk A80
    clear A80
    have H' := Aside0.mk H
    clear H
    obtain ⟨Ao9, co9, eo9⟩ := Kd.R_slice HO_0.out
    subst eo9
    go_wp2_with (first | ((with_reducible refine gate_callee (f := 88) rfl ?_); refine goesL_ (some 27) rfl rfl Try.func88 (by kernel_rfl) rfl #[.slice Ao9 x0_1.length co9, .int .i64 x7_1, .int .i64 a1, .func (.func 46) #[] #[.pointer (some (cp2)), .pointer (some (cq2))]] rfl (by (try simp only [List.map_toArray, List.map_cons, List.map_nil]); first | done | rfl | (simp only [List.length_drop, List.length_take]; rfl)) ?_; (with_reducible refine (slices_insertionSortCmpFunc_at_impl_FamilyOrder_1.calls (cp3 := cp2) (hcp3 := ?sidecp) (cq3 := cq2) (hcq3 := ?sidecq) k1 (fun k_ => some k_ = (.slice Ao9 x0_1.length co9 : Value).ownBlock) (.slice Ao9 x0_1.length co9) x0_1 x7_1 a1 A2 c2 l2 t205 w0 _ ?side1 ?side2 ?side3 ?side4 A8.out).mono ?_); (case sidecp => exact fun W_ hk_ => HCP2.out W_ (Kept.then_ (S := (fun k_ => P0_ k_)) (by repeat (first | (with_reducible first | exact HK.out | apply Kept.alloc | apply Kept.drewN | apply Kept.drew) | exact HK.out)) hk_ (fun k_ hs_ => (fun e_ => (HO_0.out.1 k_ e_.symm)) hs_))); (case sidecq => exact fun W_ hk_ => HCQ2.out W_ (Kept.then_ (S := (fun k_ => P0_ k_)) (by repeat (first | (with_reducible first | exact HK.out | apply Kept.alloc | apply Kept.drewN | apply Kept.drew) | exact HK.out)) hk_ (fun k_ hs_ => (fun e_ => (HO_0.out.1 k_ e_.symm)) hs_))); (case side1 => repeat (first | (with_reducible first | exact HB.out | apply bA_ | apply bN_ | apply bW_) | exact HB.out)); (case side2 => exact Kd.R_tight rfl HO_0.out); (case side3 => exact Kd.C_kept_call HR2.out (by repeat (first | (with_reducible first | exact HK.out | apply Kept.alloc | apply Kept.drewN | apply Kept.drew) | exact HK.out)) (fun k_ hs_ => (fun e_ => (HO_0.out.1 k_ e_.symm)) hs_)); (case side4 => exact HC2.out); rintro e w10 ⟨rfl, hy0, hb, hkp⟩; refine ⟨_, rfl, ?_⟩; have n0_ := Aside0.mk (Kd.R_reok rfl hy0 (fun k_ e_ => HO_0.out.1 k_ e_)); have n1_ := Aside0.mk (Kept.then_ (S := (fun k_ => P0_ k_)) (by repeat (first | (with_reducible first | exact HK.out | apply Kept.alloc | apply Kept.drewN | apply Kept.drew) | exact HK.out)) hkp (fun k_ hs_ => (fun e_ => (HO_0.out.1 k_ e_.symm)) hs_)); have n2_ := Aside0.mk (hb); clear HO_0; clear HK; clear HB; have HO_0 := n0_; have HK := n1_; (try have hcx2 := HCP2.out _ HK.out); have HB := n2_; clear n0_ n1_ n2_; (try clear hb); (try clear hkp); (try clear hy0)))
    (try simp only [Act.put, lS_, lZ_, lC_])
    go_loopg [6] k1 (fun kq v6 w' => ∃ (x6_2 : Int), v6 = .int .i64 x6_2 ∧ Aside0 (slices_stableCmpFunc_at_impl_FamilyOrder_1.l1 kq t205 a1 x6_2 = some r) ∧ Aside0 (kq ≤ k1) ∧ Aside0 (Kd.R (Kd.int .i64) 2 w' w0.heap.size (fun k_ => (P0_ k_ ∨ w.heap.size ≤ k_)) (.slice Ao9 x0_1.length co9) t205) ∧ Aside0 (Kept w w' (fun k_ => P0_ k_)) ∧ Aside0 (Below w0.heap.size w0 w'))
    case atStart => exact ⟨(20), (by first | rfl | (simp; done) | (simp [*]; done)), H', ⟨Nat.le_refl _⟩, ⟨by (with_reducible repeat (first | apply rA_ | apply rN_ | apply rW_)); exact HO_0.out⟩, ⟨by repeat (first | (with_reducible first | exact HK.out | apply Kept.alloc | apply Kept.drewN | apply Kept.drew) | exact HK.out)⟩, ⟨by repeat (first | (with_reducible first | exact HB.out | apply bA_ | apply bN_ | apply bW_) | exact HB.out)⟩⟩
    case round =>
     clear H'
     try clear c2
     try clear c4
     try clear c4b0
     obtain ⟨x6_2, rfl, HA, HK2, HO_0, HK, HB⟩ := hrel
     (try have hcx2 := HCP2.out _ HK.out)
     have hl0_2 := (Kd.R_reads' HO_0.out).1
     rw [hl0_2] at HO_0
     (try simp only [hl0_2])
     cases gk with
     | zero => exact absurd HA.out (by simp [slices_stableCmpFunc_at_impl_FamilyOrder_1.l1])
     | succ k2 =>
      have H := HA.out
      clear HA
      simp only [slices_stableCmpFunc_at_impl_FamilyOrder_1.l1] at H
      by_cases c11 : x6_2 < a1
      ·
       rw [if_pos c11] at H
       have c11b0 : decide (x6_2 < a1) = true := decide_eq_true c11
       clear c11
       have H' := Aside0.mk H
       clear H
       go_wp2
       (try simp only [Act.put, lS_, lZ_, lC_])
       go_loopg [7, 8] k2 (fun kq v7 v8 w' => ∃ (x7_3 : Int) (x8_3 : Int), v7 = .int .i64 x7_3 ∧ v8 = .int .i64 x8_3 ∧ Aside0 (slices_stableCmpFunc_at_impl_FamilyOrder_1.l2 kq t205 a1 x6_2 x7_3 x8_3 = some r) ∧ Aside0 (kq ≤ k2) ∧ Aside0 (Kd.R (Kd.int .i64) 2 w' w0.heap.size (fun k_ => (P0_ k_ ∨ w.heap.size ≤ k_)) (.slice Ao9 t205.length co9) t205) ∧ Aside0 (Kept w w' (fun k_ => P0_ k_)) ∧ Aside0 (Below w0.heap.size w0 w'))
       case atStart => exact ⟨(0), (wrap64 (2 * x6_2)), (by first | rfl | (simp; done) | (simp [*]; done)), (by first | rfl | (simp; done) | (simp [*]; done)), H', ⟨Nat.le_refl _⟩, ⟨by (try simp only [hl0_2]); (with_reducible repeat (first | apply rA_ | apply rN_ | apply rW_)); exact HO_0.out⟩, ⟨by repeat (first | (with_reducible first | exact HK.out | apply Kept.alloc | apply Kept.drewN | apply Kept.drew) | exact HK.out)⟩, ⟨by repeat (first | (with_reducible first | exact HB.out | apply bA_ | apply bN_ | apply bW_) | exact HB.out)⟩⟩
       case round =>
        clear H'
        try clear c2
        try clear c4
        try clear c4b0
        try clear c11
        try clear c11b0
        obtain ⟨x7_3, x8_3, rfl, rfl, HA, HK3, HO_0, HK, HB⟩ := hrel
        (try have hcx2 := HCP2.out _ HK.out)
        cases gk with
        | zero => exact absurd HA.out (by simp [slices_stableCmpFunc_at_impl_FamilyOrder_1.l2])
        | succ k3 =>
         have H := HA.out
         clear HA
         simp only [slices_stableCmpFunc_at_impl_FamilyOrder_1.l2] at H
         by_cases c12 : x8_3 ≤ a1
         ·
          rw [if_pos c12] at H
          exact absurd H (by simp)
         ·
          rw [if_neg c12] at H
          have c12b0 : decide (x8_3 ≤ a1) = false := decide_eq_false c12
          clear c12
          by_cases c13 : (wrap64 (x7_3 + x6_2)) < a1
          ·
           rw [if_pos c13] at H
           exact absurd H (by simp)
          ·
           rw [if_neg c13] at H
           have c13b0 : decide ((wrap64 (x7_3 + x6_2)) < a1) = false := decide_eq_false c13
           clear c13
           have H' := Aside0.mk H
           clear H
           go_wp2
           (try simp only [← hl0_2])
           go_roundg k3
           case measure => have := HK1.out; have := HK2.out; have := HK3.out; omega
           case rel => exact ⟨(wrap64 (x6_2 * 2)), (by first | rfl | (simp; done) | (simp [*]; done)), H', ⟨by have := HK1.out; have := HK2.out; have := HK3.out; omega⟩, ⟨by (try simp only [hl0_2]); (with_reducible repeat (first | apply rA_ | apply rN_ | apply rW_)); exact HO_0.out⟩, ⟨by repeat (first | (with_reducible first | exact HK.out | apply Kept.alloc | apply Kept.drewN | apply Kept.drew) | exact HK.out)⟩, ⟨by repeat (first | (with_reducible first | exact HB.out | apply bA_ | apply bN_ | apply bW_) | exact HB.out)⟩⟩
      ·
       rw [if_neg c11] at H
       have c11b0 : decide (x6_2 < a1) = false := decide_eq_false c11
       clear c11
       obtain rfl := Option.some.inj H
       go_wp2
       first | go_end0 | ((try simp only [Exit.inBlock, Exit.then]); refine bodyPost_ret (results_none rfl _ _ _) rfl ?_)
       exact ⟨by first | rfl | (simp [errW_none, errW_some] <;> rfl) | (simp [*, errW_none, errW_some] <;> rfl), (by first | exact (by (with_reducible repeat (first | apply rA_ | apply rN_ | apply rW_)); exact HO_0.out) | (simp only [hl0_2]; exact (by (with_reducible repeat (first | apply rA_ | apply rN_ | apply rW_)); exact HO_0.out))), by repeat (first | (with_reducible first | exact HB.out | apply bA_ | apply bN_ | apply bW_) | exact HB.out), by repeat (first | (with_reducible first | exact HK.out | apply Kept.alloc | apply Kept.drewN | apply Kept.drew) | exact HK.out)⟩

/-! ### slices_SortStableFunc_at_impl_FamilyOrder_1: function 73 -/
def slices_SortStableFunc_at_impl_FamilyOrder_1.f (k : Nat) (l0 : List Int) (l1 : List (S56)) : Option (List Int) := (slices_stableCmpFunc_at_impl_FamilyOrder_1.f k l0 (l0.length : Int) l1).bind fun t206 => (some t206)
theorem slices_SortStableFunc_at_impl_FamilyOrder_1.mono : ∀ a0 a1 k, LeO (slices_SortStableFunc_at_impl_FamilyOrder_1.f k a0 a1) (slices_SortStableFunc_at_impl_FamilyOrder_1.f (k + 1) a0 a1) := by
 intro a0 a1 k
 unfold slices_SortStableFunc_at_impl_FamilyOrder_1.f
 repeat' first
   | (with_reducible exact slices_stableCmpFunc_at_impl_FamilyOrder_1.mono _ _ _ _)
   | (with_reducible exact LeO.refl _)
   | (with_reducible exact LeO.none _)
   | (with_reducible refine LeO.ite ?_ ?_)
   | (with_reducible refine LeO.bind ?_ (fun _ => ?_))
   | exact slices_stableCmpFunc_at_impl_FamilyOrder_1.mono _ _ _ _
   | exact LeO.none _
   | refine LeO.ite ?_ ?_
   | refine LeO.bind ?_ (fun _ => ?_)
set_option maxHeartbeats 8000000 in
set_option maxRecDepth 100000 in
theorem slices_SortStableFunc_at_impl_FamilyOrder_1.calls (k : Nat) (P0_ : Nat → Prop) (u9000_ : Value) (l0 : List Int) (cp1 cq1 : Addr) (A1 : Option Addr) (c1 : Nat) (l1 : List (S56)) (r : List Int) (w0 w : World) (hB : Below w0.heap.size w0 w) (ho0 : Kd.R (Kd.int .i64) 2 w w0.heap.size P0_ u9000_ l0) (hr1 : ∀ W_, Kept w W_ (fun k_ => P0_ k_) → Kd.C k56 W_ A1 l1.length l1) (hc1 : l1.length ≤ c1) (hcp1 : ∀ W_, Kept w W_ (fun k_ => P0_ k_) → W_.cell? cp1 = some (.slice A1 l1.length c1)) (hcq1 : ∀ W_, Kept w W_ (fun k_ => P0_ k_) → MapAt W_ cq1 l1) (h : slices_SortStableFunc_at_impl_FamilyOrder_1.f k l0 l1 = some r) :
  Calls Try.prog 73 #[u9000_, .func (.func 46) #[] #[.pointer (some cp1), .pointer (some cq1)]] w fun e w' => e = .returned (.tuple #[]) ∧ Kd.R (Kd.int .i64) 2 w' w0.heap.size (fun k_ => (P0_ k_ ∨ w.heap.size ≤ k_)) u9000_ r ∧ Below w0.heap.size w0 w' ∧ Kept w w' (fun k_ => P0_ k_) := by
 have HCQ1 := Aside0.mk hcq1
 clear hcq1
 have HCP1 := Aside0.mk hcp1
 clear hcp1
 have hcx1 := HCP1.out _ (Kept.refl w _)
 have HO0 := Aside0.mk (show Kd.R (Kd.int .i64) 2 w w0.heap.size (fun k_ => (P0_ k_ ∨ w.heap.size ≤ k_)) u9000_ l0 from Kd.R_mono ho0 (fun k_ hk => (.inl hk)))
 have HR1 := Aside0.mk hr1
 have HC1 := Aside0.mk hc1
 clear hr1 hc1
 have HK := Aside0.mk (Kept.refl w (fun k_ => P0_ k_))
 have HW0 := Aside0.mk hB.size
 have HB := Aside0.mk hB
 clear hB
 have H : ((slices_stableCmpFunc_at_impl_FamilyOrder_1.f k l0 (l0.length : Int) l1).bind fun t206 => (some t206)) = some r := h
 clear h
 replace H := Option.bind_eq_some_iff.mp H
 obtain ⟨t206, A30, H⟩ := H
 (try dsimp only at H)
 have A3 := Aside0.mk A30
 clear A30
 obtain rfl := Option.some.inj H
 obtain ⟨Ao4, co4, eo4⟩ := Kd.R_slice HO0.out
 subst eo4
 go_enter Try.func73, Try.ntmps73
 go_wp2_with (first | ((with_reducible refine gate_callee (f := 86) rfl ?_); refine goesL_ (some 8) rfl rfl Try.func86 (by kernel_rfl) rfl #[.slice Ao4 l0.length co4, .int .i64 (l0.length : Int), .func (.func 46) #[] #[.pointer (some (cp1)), .pointer (some (cq1))]] rfl (by (try simp only [List.map_toArray, List.map_cons, List.map_nil]); first | done | rfl | (simp only [List.length_drop, List.length_take]; rfl)) ?_; (with_reducible refine (slices_stableCmpFunc_at_impl_FamilyOrder_1.calls (cp2 := cp1) (hcp2 := ?sidecp) (cq2 := cq1) (hcq2 := ?sidecq) k (fun k_ => some k_ = (.slice Ao4 l0.length co4 : Value).ownBlock) (.slice Ao4 l0.length co4) l0 (l0.length : Int) A1 c1 l1 t206 w0 _ ?side1 ?side2 ?side3 ?side4 A3.out).mono ?_); (case sidecp => exact fun W_ hk_ => HCP1.out W_ (Kept.then_ (S := (fun k_ => P0_ k_)) (by repeat (first | (with_reducible first | exact HK.out | apply Kept.alloc | apply Kept.drewN | apply Kept.drew) | exact HK.out)) hk_ (fun k_ hs_ => (fun e_ => (HO0.out.1 k_ e_.symm)) hs_))); (case sidecq => exact fun W_ hk_ => HCQ1.out W_ (Kept.then_ (S := (fun k_ => P0_ k_)) (by repeat (first | (with_reducible first | exact HK.out | apply Kept.alloc | apply Kept.drewN | apply Kept.drew) | exact HK.out)) hk_ (fun k_ hs_ => (fun e_ => (HO0.out.1 k_ e_.symm)) hs_))); (case side1 => repeat (first | (with_reducible first | exact HB.out | apply bA_ | apply bN_ | apply bW_) | exact HB.out)); (case side2 => exact Kd.R_tight rfl HO0.out); (case side3 => exact Kd.C_kept_call HR1.out (by repeat (first | (with_reducible first | exact HK.out | apply Kept.alloc | apply Kept.drewN | apply Kept.drew) | exact HK.out)) (fun k_ hs_ => (fun e_ => (HO0.out.1 k_ e_.symm)) hs_)); (case side4 => exact HC1.out); rintro e w5 ⟨rfl, hy0, hb, hkp⟩; refine ⟨_, rfl, ?_⟩; have n0_ := Aside0.mk (Kd.R_reok rfl hy0 (fun k_ e_ => HO0.out.1 k_ e_)); have n1_ := Aside0.mk (Kept.then_ (S := (fun k_ => P0_ k_)) (by repeat (first | (with_reducible first | exact HK.out | apply Kept.alloc | apply Kept.drewN | apply Kept.drew) | exact HK.out)) hkp (fun k_ hs_ => (fun e_ => (HO0.out.1 k_ e_.symm)) hs_)); have n2_ := Aside0.mk (hb); clear HO0; clear HK; clear HB; have HO0 := n0_; have HK := n1_; (try have hcx1 := HCP1.out _ HK.out); have HB := n2_; clear n0_ n1_ n2_; (try clear hb); (try clear hkp); (try clear hy0)))
 first | go_end0 | ((try simp only [Exit.inBlock, Exit.then]); refine bodyPost_ret (results_none rfl _ _ _) rfl ?_)
 exact ⟨by first | rfl | (simp [errW_none, errW_some] <;> rfl) | (simp [*, errW_none, errW_some] <;> rfl), by (with_reducible repeat (first | apply rA_ | apply rN_ | apply rW_)); exact HO0.out, by repeat (first | (with_reducible first | exact HB.out | apply bA_ | apply bN_ | apply bW_) | exact HB.out), by repeat (first | (with_reducible first | exact HK.out | apply Kept.alloc | apply Kept.drewN | apply Kept.drew) | exact HK.out)⟩

/-! ### impl_sortedBy_at_impl_FamilyOrder_1: function 45 -/
def impl_sortedBy_at_impl_FamilyOrder_1.l0 : Nat → List (S56) → List Int → Int → Int → Option (List Int)
 | 0, _, _, _, _ => none
 | k + 1, x1, x5, x8, x9 => if x9 < x8 then (if x5.length < 17592186044416 then (impl_sortedBy_at_impl_FamilyOrder_1.l0 k x1 (x5 ++ [x9]) x8 (wrap64 (x9 + 1))) else (none)) else ((slices_SortStableFunc_at_impl_FamilyOrder_1.f k x5 x1).bind fun t213 => (some t213))
def impl_sortedBy_at_impl_FamilyOrder_1.f (k : Nat) (a0 : Int) (l1 : List (S56)) : Option (List Int) := impl_sortedBy_at_impl_FamilyOrder_1.l0 k l1 (([] : List Int)) a0 0
theorem impl_sortedBy_at_impl_FamilyOrder_1.mono_l : ∀ k, (∀ y0 y1 y2 y3, LeO (impl_sortedBy_at_impl_FamilyOrder_1.l0 k y0 y1 y2 y3) (impl_sortedBy_at_impl_FamilyOrder_1.l0 (k + 1) y0 y1 y2 y3))
 | 0 => fun _ _ _ _ r h => by simp [impl_sortedBy_at_impl_FamilyOrder_1.l0] at h
 | k + 1 => by
  have ih0 := impl_sortedBy_at_impl_FamilyOrder_1.mono_l k
  ·
   intro y0 y1 y2 y3
   unfold impl_sortedBy_at_impl_FamilyOrder_1.l0
   repeat' first
   | (with_reducible exact ih0 _ _ _ _)
   | (with_reducible exact slices_SortStableFunc_at_impl_FamilyOrder_1.mono _ _ _)
   | (with_reducible exact LeO.refl _)
   | (with_reducible exact LeO.none _)
   | (with_reducible refine LeO.ite ?_ ?_)
   | (with_reducible refine LeO.bind ?_ (fun _ => ?_))
   | exact ih0 _ _ _ _
   | exact slices_SortStableFunc_at_impl_FamilyOrder_1.mono _ _ _
   | exact LeO.none _
   | refine LeO.ite ?_ ?_
   | refine LeO.bind ?_ (fun _ => ?_)
theorem impl_sortedBy_at_impl_FamilyOrder_1.mono : ∀ a0 a1 k, LeO (impl_sortedBy_at_impl_FamilyOrder_1.f k a0 a1) (impl_sortedBy_at_impl_FamilyOrder_1.f (k + 1) a0 a1) := by
 intro a0 a1 k
 have ih0 := impl_sortedBy_at_impl_FamilyOrder_1.mono_l k
 unfold impl_sortedBy_at_impl_FamilyOrder_1.f
 repeat' first
   | (with_reducible exact ih0 _ _ _ _)
   | (with_reducible exact slices_SortStableFunc_at_impl_FamilyOrder_1.mono _ _ _)
   | (with_reducible exact LeO.refl _)
   | (with_reducible exact LeO.none _)
   | (with_reducible refine LeO.ite ?_ ?_)
   | (with_reducible refine LeO.bind ?_ (fun _ => ?_))
   | exact ih0 _ _ _ _
   | exact slices_SortStableFunc_at_impl_FamilyOrder_1.mono _ _ _
   | exact LeO.none _
   | refine LeO.ite ?_ ?_
   | refine LeO.bind ?_ (fun _ => ?_)
set_option maxHeartbeats 8000000 in
set_option maxRecDepth 100000 in
theorem impl_sortedBy_at_impl_FamilyOrder_1.calls (k : Nat) (a0 : Int) (cp1 cq1 : Addr) (A1 : Option Addr) (c1 : Nat) (l1 : List (S56)) (r : List Int) (w : World) (hr1 : Kd.C k56 w A1 l1.length l1) (hc1 : l1.length ≤ c1) (hcp1 : w.cell? cp1 = some (.slice A1 l1.length c1)) (hcq1 : MapAt w cq1 l1) (h : impl_sortedBy_at_impl_FamilyOrder_1.f k a0 l1 = some r) :
  Calls Try.prog 45 #[.int .i64 a0, .func (.func 46) #[] #[.pointer (some cp1), .pointer (some cq1)]] w fun e w' => ∃ v0_ : Value, e = .returned (v0_) ∧ Kd.R (Kd.int .i64) 2 w' w.heap.size (fun _ => True) v0_ r ∧ Below w.heap.size w w' := by
 have HCQ1 := Aside0.mk hcq1
 clear hcq1
 have HCP1 := Aside0.mk hcp1
 clear hcp1
 have hcx1 := HCP1.out
 have HR1 := Aside0.mk hr1
 have HC1 := Aside0.mk hc1
 clear hr1 hc1
 have HB := Aside0.mk (Below.refl w.heap.size w)
 have H : (impl_sortedBy_at_impl_FamilyOrder_1.l0 k l1 (([] : List Int)) a0 0) = some r := h
 clear h
 obtain ⟨y207, hy207⟩ : ∃ y_ : List Int, y_ = (([] : List Int)) := ⟨_, rfl⟩
 replace H : (impl_sortedBy_at_impl_FamilyOrder_1.l0 k l1 y207 a0 0) = some r := by first | (rw [hy207]; with_reducible exact H) | (have H2_ := (Option.bind_some _ _).symm.trans H; rw [hy207]; with_reducible exact H2_) | (have H2_ := (Option.bind_some _ _).symm.trans H; with_reducible exact H2_) | with_reducible exact H | (rw [hy207]; exact H) | exact H
 have Ny207 := Aside0.mk hy207
 clear hy207
 have H' := Aside0.mk H
 clear H
 go_enter Try.func45, Try.ntmps45
 go_wp2_with (first | ((with_reducible refine gate_dst (N := 7) rfl ?_); refine Kd.R_lit (Kd.int .i64) _ 2 ?hg (N := 7) ?hd (xs := ([] : List Int)) (inner := []) (ok := fun _ => True) (okp := fun _ => True) ?hr ?hp (fun _ hk => hk) trivial (Below.refl _ _) (Nat.le_refl _) (by simp) ?_; (case hd => rfl); (case hg => rfl); (case hr => first | (go_simp; done) | (go_simp; rfl)); (case hp => exact (Reps.none _ _)); intro v208 w3 ho4 hb hg_ hnew_; clear hg_ hnew_; (first | rw [← Ny207.out] at ho4 | (simp only [Int.reduceToNat] at ho4; rw [← Ny207.out] at ho4)); have n0_ := Aside0.mk (Kd.R_lower ho4 (below_size (by repeat (first | (with_reducible first | exact HB.out | apply bA_ | apply bN_ | apply bW_) | exact HB.out)))); have n1_ := Aside0.mk (below_step (by repeat (first | (with_reducible first | exact HB.out | apply bA_ | apply bN_ | apply bW_) | exact HB.out)) hb); clear HB; have HO209 := n0_; have HB := n1_; (try have hcx1 := (HB.out.cell (World.block_lt_of_cell? _ _ HCP1.out)).trans HCP1.out); clear n0_ n1_; clear hb ho4))
 (try simp only [Act.put, lS_, lZ_, lC_])
 go_loopg [5, 9] k (fun kq v5 v9 w' => ∃ (x5_1 : List Int) (x9_1 : Int), v9 = .int .i64 x9_1 ∧ Aside0 (impl_sortedBy_at_impl_FamilyOrder_1.l0 kq l1 x5_1 a0 x9_1 = some r) ∧ Aside0 (kq ≤ k) ∧ Aside0 (Kd.R (Kd.int .i64) 2 w' w.heap.size (fun _ => True) v5 x5_1) ∧ Aside0 (Below w.heap.size w w'))
 case atStart => exact ⟨(y207), (0), (by first | rfl | (simp; done) | (simp [*]; done)), H', ⟨Nat.le_refl _⟩, ⟨by (with_reducible repeat (first | apply rA_ | apply rN_ | apply rW_)); exact HO209.out⟩, ⟨by repeat (first | (with_reducible first | exact HB.out | apply bA_ | apply bN_ | apply bW_) | exact HB.out)⟩⟩
 case round =>
  clear H'
  try clear c1
  obtain ⟨x5_1, x9_1, rfl, HA, HK1, HO_5, HB⟩ := hrel
  (try have hcx1 := (HB.out.cell (World.block_lt_of_cell? _ _ HCP1.out)).trans HCP1.out)
  cases gk with
  | zero => exact absurd HA.out (by simp [impl_sortedBy_at_impl_FamilyOrder_1.l0])
  | succ k1 =>
   have H := HA.out
   clear HA
   simp only [impl_sortedBy_at_impl_FamilyOrder_1.l0] at H
   by_cases c5 : x9_1 < a0
   ·
    rw [if_pos c5] at H
    have c5b0 : decide (x9_1 < a0) = true := decide_eq_true c5
    clear c5
    by_cases c6 : x5_1.length < 17592186044416
    ·
     rw [if_pos c6] at H
     have LMc6 := Aside0.mk c6
     clear c6
     obtain ⟨y210, hy210⟩ : ∃ y_ : List Int, y_ = (x5_1 ++ [x9_1]) := ⟨_, rfl⟩
     replace H : (impl_sortedBy_at_impl_FamilyOrder_1.l0 k1 l1 y210 a0 (wrap64 (x9_1 + 1))) = some r := by first | (rw [hy210]; with_reducible exact H) | (have H2_ := (Option.bind_some _ _).symm.trans H; rw [hy210]; with_reducible exact H2_) | (have H2_ := (Option.bind_some _ _).symm.trans H; with_reducible exact H2_) | with_reducible exact H | (rw [hy210]; exact H) | exact H
     have Ny210 := Aside0.mk hy210
     clear hy210
     have H' := Aside0.mk H
     clear H
     go_wp2_with (first | ((with_reducible refine gate_builtin (b := .append) (xs := #[.tmp 12, .tmp 14]) rfl ?_); at_builtin; refine Kd.R_append (Kd.int .i64) (w0 := w) w.heap.size rfl (.tmp 12) (.tmp 14) 23 2 (.int .i64 0) 8 rfl Try.underlying23 info2 rfl (by decide) (by omega) u5 x5_1 x9_1 [.int .i64 x9_1] (fun _ => True) (fun _ => False) rfl rfl ?aP (fun _ hk => hk.elim) ?aF ?aO ?aB ?aS ?aL ?_; (case aP => exact rfl); (case aB => exact (by repeat (first | (with_reducible first | exact HB.out | apply bA_ | apply bN_ | apply bW_) | exact HB.out))); (case aF => exact (fun _ _ => trivial)); (case aO => exact (by (with_reducible repeat (first | apply rA_ | apply rN_ | apply rW_)); exact HO_5.out)); (case aS => exact (below_size (by repeat (first | (with_reducible first | exact HB.out | apply bA_ | apply bN_ | apply bW_) | exact HB.out)))); (case aL => have := LMc6.out; omega); intro v211 w7 ho hb hg hat; rw [← Ny210.out] at ho; have n0_ := Aside0.mk (hb); have n1_ := Aside0.mk (ho); clear HB; clear HO_5; have HB := n0_; (try have hcx1 := (HB.out.cell (World.block_lt_of_cell? _ _ HCP1.out)).trans HCP1.out); have HO212 := n1_; clear n0_ n1_; clear ho hb hg hat))
     go_roundg k1
     case measure => have := HK1.out; omega
     case rel => exact ⟨(y210), (wrap64 (x9_1 + 1)), (by first | rfl | (simp; done) | (simp [*]; done)), H', ⟨by have := HK1.out; omega⟩, ⟨by (with_reducible repeat (first | apply rA_ | apply rN_ | apply rW_)); exact HO212.out⟩, ⟨by repeat (first | (with_reducible first | exact HB.out | apply bA_ | apply bN_ | apply bW_) | exact HB.out)⟩⟩
    ·
     rw [if_neg c6] at H
     exact absurd H (by simp)
   ·
    rw [if_neg c5] at H
    have c5b0 : decide (x9_1 < a0) = false := decide_eq_false c5
    clear c5
    replace H := Option.bind_eq_some_iff.mp H
    obtain ⟨t213, A80, H⟩ := H
    (try dsimp only at H)
    have A8 := Aside0.mk A80
    clear A80
    obtain rfl := Option.some.inj H
    obtain ⟨Ao9, co9, eo9⟩ := Kd.R_slice HO_5.out
    subst eo9
    go_wp2_with (first | ((with_reducible refine gate_callee (f := 73) rfl ?_); refine goesL_ (some 19) rfl rfl Try.func73 (by kernel_rfl) rfl #[.slice Ao9 x5_1.length co9, .func (.func 46) #[] #[.pointer (some (cp1)), .pointer (some (cq1))]] rfl (by (try simp only [List.map_toArray, List.map_cons, List.map_nil]); first | done | rfl | (simp only [List.length_drop, List.length_take]; rfl)) ?_; (with_reducible refine (slices_SortStableFunc_at_impl_FamilyOrder_1.calls (cp1 := cp1) (hcp1 := ?sidecp) (cq1 := cq1) (hcq1 := ?sidecq) k1 (fun k_ => some k_ = (.slice Ao9 x5_1.length co9 : Value).ownBlock) (.slice Ao9 x5_1.length co9) x5_1 A1 c1 l1 t213 w _ ?side1 ?side2 ?side3 ?side4 A8.out).mono ?_); (case sidecp => exact fun W_ hk_ => cell_kept hcx1 hk_ (fun hs_ => absurd ((show ∀ k_ : Nat, some k_ = (.slice Ao9 x5_1.length co9 : Value).ownBlock → w.heap.size ≤ k_ from (fun k_ hs_ => (fun e_ => Kd.R_base HO_5.out k_ e_.symm) hs_)) _ hs_) (Nat.not_le.2 (World.block_lt_of_cell? _ _ HCP1.out)))); (case sidecq => exact fun W_ hk_ => mapAt_kept HCQ1.out (by repeat (first | (with_reducible first | exact HB.out | apply bA_ | apply bN_ | apply bW_) | exact HB.out)) hk_ (show ∀ k_ : Nat, some k_ = (.slice Ao9 x5_1.length co9 : Value).ownBlock → w.heap.size ≤ k_ from (fun k_ hs_ => (fun e_ => Kd.R_base HO_5.out k_ e_.symm) hs_))); (case side1 => repeat (first | (with_reducible first | exact HB.out | apply bA_ | apply bN_ | apply bW_) | exact HB.out)); (case side2 => exact Kd.R_tight rfl HO_5.out); (case side3 => exact Kd.C_kept_came k56_heap HR1.out (by repeat (first | (with_reducible first | exact HB.out | apply bA_ | apply bN_ | apply bW_) | exact HB.out)) (fun k_ hs_ => (fun e_ => Kd.R_base HO_5.out k_ e_.symm) hs_)); (case side4 => exact HC1.out); rintro e w10 ⟨rfl, hy0, hb, hkp⟩; refine ⟨_, rfl, ?_⟩; have n0_ := Aside0.mk (Kd.R_reok rfl hy0 (fun k_ e_ => HO_5.out.1 k_ e_)); have n1_ := Aside0.mk (hb); clear HO_5; clear HB; have HO_5 := n0_; have HB := n1_; (try have hcx1 := (HB.out.cell (World.block_lt_of_cell? _ _ HCP1.out)).trans HCP1.out); clear n0_ n1_; (try clear hb); (try clear hkp); (try clear hy0)))
    go_ret
    exact ⟨_, by first | rfl | (simp [errW_none, errW_some] <;> rfl) | (simp [*, errW_none, errW_some] <;> rfl), by (with_reducible repeat (first | apply rA_ | apply rN_ | apply rW_)); exact HO_5.out, by repeat (first | (with_reducible first | exact HB.out | apply bA_ | apply bN_ | apply bW_) | exact HB.out)⟩

/-! ### impl_FamilyOrder: function 21 -/
def impl_FamilyOrder.f (k : Nat) (a0 : Int) (l1 : List (S56)) : Option (List Int × Int) := (impl_IsShop.f k a0 l1).bind fun t => if t = true then (if (l1.all fun x => (Lit.int .i64 x.f0).wf && (Lit.int .i64 x.f2).wf) = true then (if l1.length ≤ 1000000 then ((impl_sortedBy_at_impl_FamilyOrder_1.f k (l1.length : Int) l1).bind fun o => some (o, 0)) else none) else none) else some (([] : List Int), 1)
theorem impl_FamilyOrder.mono : ∀ a0 a1 k, LeO (impl_FamilyOrder.f k a0 a1) (impl_FamilyOrder.f (k + 1) a0 a1) := by
  intro a0 a1 k
  unfold impl_FamilyOrder.f
  refine LeO.bind (impl_IsShop.mono _ _ _) (fun _ => ?_)
  refine LeO.ite (LeO.ite (LeO.ite (LeO.bind (impl_sortedBy_at_impl_FamilyOrder_1.mono _ _ _) (fun _ => LeO.refl _)) (LeO.refl _)) (LeO.refl _)) (LeO.refl _)
theorem take_snoc_rd {l : List S56} {x : Int} (h0 : 0 ≤ x) (h1 : x < (l.length : Int)) : l.take (x + 1).toNat = l.take x.toNat ++ [rd_T56 l x] := by
  have e : (x + 1).toNat = x.toNat + 1 := by omega
  have hl : x.toNat < l.length := by omega
  rw [e, List.take_add_one, List.getElem?_eq_getElem hl]
  simp [rd_T56, List.getD_eq_getElem?_getD, hl]
theorem cell_grown {w w1 : World} {row : Option Nat} {a : Addr} {v : Value} (hc : w.cell? a = some v) (hg : w.grownBy w1 row) (hne : some a.block ≠ row) : w1.cell? a = some v := by
  have := hg.block a.block (World.block_lt_of_cell? w a hc) hne
  simpa [World.cell?, this] using hc
set_option maxHeartbeats 8000000 in
set_option maxRecDepth 100000 in
theorem impl_FamilyOrder.calls (k : Nat) (a0 : Int) (A1 : Option Addr) (c1 : Nat) (l1 : List (S56)) (r1 : List Int) (r2 : Int) (w : World) (hr1 : Kd.C k56 w A1 l1.length l1) (hc1 : l1.length ≤ c1) (h : impl_FamilyOrder.f k a0 l1 = some (r1, r2)) :
    Calls Try.prog 21 #[.int .i64 a0, .slice A1 l1.length c1] w fun e w' => ∃ v0_ : Value, e = .returned (.tuple #[v0_, .int .i64 r2]) ∧ Kd.R (Kd.int .i64) 2 w' w.heap.size (fun _ => True) v0_ r1 ∧ Below w.heap.size w w' := by
  have hcx : (w.alloc (.cells #[.slice A1 l1.length c1] 42)).cell? ⟨w.heap.size, 0, none⟩ = some (.slice A1 l1.length c1) := cap_alloc w _ 42
  have HR1 := Aside0.mk hr1
  have HC1 := Aside0.mk hc1
  clear hr1 hc1
  have HB := Aside0.mk (Below.refl w.heap.size w)
  unfold impl_FamilyOrder.f at h
  obtain ⟨t, A20, h⟩ := Option.bind_eq_some_iff.mp h
  have A2 := Aside0.mk A20
  clear A20
  by_cases c3 : t = true
  · subst c3
    rw [if_pos rfl] at h
    by_cases c4 : (l1.all fun x => (Lit.int .i64 x.f0).wf && (Lit.int .i64 x.f2).wf) = true
    case neg => rw [if_neg c4] at h; cases h
    by_cases c5 : l1.length ≤ 1000000
    case neg => rw [if_pos c4, if_neg c5] at h; cases h
    rw [if_pos c4, if_pos c5] at h
    obtain ⟨o, A50, h⟩ := Option.bind_eq_some_iff.mp h
    have A5 := Aside0.mk A50
    have C4 := Aside0.mk c4
    have C5 := Aside0.mk c5
    clear A50 c4 c5
    simp only [Option.some.injEq, Prod.mk.injEq] at h
    obtain ⟨rfl, rfl⟩ := h
    have hmm := @run_makeMap Try.prog
    go_enter Try.func21, Try.ntmps21
    go_upto_region 4 with (first | ((with_reducible refine gate_callee (f := 32) rfl ?_); refine goesL_ (some 13) rfl rfl Try.func32 (by kernel_rfl) rfl #[.int .i64 a0, .slice A1 l1.length c1] rfl (by (try simp only [List.map_toArray, List.map_cons, List.map_nil]); first | done | rfl) ?_; (with_reducible refine (impl_IsShop.calls k a0 _ _ l1 true _ ?side1 ?side2 A2.out).mono ?_); (case side1 => repeat (first | exact HR1.out | (with_reducible refine cA_ ?_ _) | (with_reducible refine cN_ ?_ _) | (with_reducible refine cW_ ?_))); (case side2 => exact HC1.out); rintro e w5 ⟨rfl, hb⟩; refine ⟨_, rfl, ?_⟩; have hcx5 := Aside0.mk ((hb.cell (World.block_lt_of_cell? _ _ hcx)).trans hcx); have n0_ := Aside0.mk (below_step (by repeat (first | (with_reducible first | exact HB.out | apply bA_ | apply bN_ | apply bW_) | exact HB.out)) hb); clear HB; have HB := n0_; clear n0_ hb hcx) | ((with_reducible refine gate_dst (N := 6) rfl ?_); refine box_event ?hg (N := 6) ?hd (cs := #[.map none]) (t := 66) ?hr ?_; (case hd => rfl); (case hg => rfl); (case hr => first | (go_simp; done) | (go_simp; rfl)); intro gbf hgf w6 hbox hb; have HMO := Aside0.mk (mapOwn_below (l := []) ⟨0, .map [], Nat.zero_le _, World.ownsMap_made w5 Try.prog 2 _, mapSays_nil⟩ hb); have HCX := Aside0.mk ((hb.cell (World.block_lt_of_cell? _ _ ((bA_ (Below.refl w5.heap.size w5) (.map #[] 0)).cell (World.block_lt_of_cell? _ _ hcx5.out) |>.trans hcx5.out))).trans ((bA_ (Below.refl w5.heap.size w5) (.map #[] 0)).cell (World.block_lt_of_cell? _ _ hcx5.out) |>.trans hcx5.out)); have HBX := Aside0.mk hbox; have HGF := Aside0.mk hgf; have n0_ := Aside0.mk (below_step (by repeat (first | (with_reducible first | exact HB.out | apply bA_ | apply bN_ | apply bW_) | exact HB.out)) hb); have HS5 := Aside0.mk (World.block_lt_of_cell? _ _ hcx5.out); clear HB; have HB := n0_; clear n0_ hb hgf hcx5; have hcz_0 : w6.cell? ⟨gbf, 0, none⟩ = some (.map none) := (blk_cell hbox 0).trans rfl; have hfz_0 := blk_frozen hbox 0; clear hbox))
    have hgs : gbf = w5.heap.size + 1 := by rw [HGF.out]; simp
    have hs5 : w.heap.size < w5.heap.size := HS5.out
    have n0_ := Aside0.mk (show (w6.setCell ⟨gbf, 0, none⟩ (.map (some w5.heap.size))).cell? ⟨w.heap.size, 0, none⟩ = some (.slice A1 l1.length c1) from (cell_far (show w.heap.size ≠ gbf by omega) _).trans HCX.out)
    have n1_ := Aside0.mk (show (w6.setCell ⟨gbf, 0, none⟩ (.map (some w5.heap.size))).cell? ⟨gbf, 0, none⟩ = some (.map (some w5.heap.size)) from (blk_cell (blk_put HBX.out 0 _ rfl) 0).trans rfl)
    have n2_ := Aside0.mk (show MapOwn (w6.setCell ⟨gbf, 0, none⟩ (.map (some w5.heap.size))) w5.heap.size [] from mapOwn_set HMO.out (show w5.heap.size ≠ gbf by omega) _)
    have n3_ := Aside0.mk (show Below w.heap.size w (w6.setCell ⟨gbf, 0, none⟩ (.map (some w5.heap.size))) from below_set HB.out (by omega))
    have hgw := Aside0.mk (show w.heap.size ≤ gbf by omega)
    have hgm := Aside0.mk (show w.heap.size < w5.heap.size from hs5)
    have hnm := Aside0.mk (show gbf ≠ w5.heap.size by omega)
    have hnw := Aside0.mk (show w.heap.size ≠ gbf by omega)
    clear hcz_0 hfz_0 HCX HBX HMO HB HGF HS5 hs5 hgs
    generalize (w6.setCell ⟨gbf, 0, none⟩ (.map (some w5.heap.size))) = w7 at n0_ n1_ n2_ n3_ ⊢
    generalize w5.heap.size = bm at n1_ n2_ hgm hnm
    have HCX := n0_
    have HFC := n1_
    have HMO := n2_
    have HB := n3_
    clear n0_ n1_ n2_ n3_
    have hcx7 := HCX.out
    go_wp2
    clear hcx7
    go_loopw [18] (fun i wr => ∃ x : Int, i = .int .i64 x ∧ Aside0 (0 ≤ x) ∧ Aside0 (x ≤ (l1.length : Int)) ∧ Aside0 (wr.cell? ⟨w.heap.size, 0, none⟩ = some (.slice A1 l1.length c1)) ∧ Aside0 (wr.cell? ⟨gbf, 0, none⟩ = some (.map (some bm))) ∧ Aside0 (MapOwn wr bm (l1.take x.toNat)) ∧ Aside0 (Below w.heap.size w wr)) (fun i _ => l1.length - (intOf i).toNat)
    case atStart => exact ⟨0, rfl, ⟨Int.le_refl _⟩, ⟨Int.natCast_nonneg _⟩, HCX, HFC, ⟨HMO.out⟩, HB⟩
    case round =>
      clear HCX HFC HMO HB
      obtain ⟨x, rfl, h0, h1, HCX, HFC, HMO, HB⟩ := hrel
      by_cases hlt : x < (l1.length : Int)
      · have p9 : 0 ≤ (x : Int) := h0.out
        have q9 : x < (l1.length : Int) := hlt
        have c9b0 : decide (x < (l1.length : Int)) = true := decide_eq_true hlt
        have c9b1 : decide (0 ≤ x) = true := decide_eq_true p9
        obtain ⟨ad9, e9, hx9_0, hx9_1, hx9_2⟩ := at_T56 HR1.out x p9 q9
        cases e9
        replace hx9_0 := (HB.out.cell (World.block_lt_of_cell? _ _ hx9_0)).trans hx9_0
        replace hx9_1 := (HB.out.cell (World.block_lt_of_cell? _ _ hx9_1)).trans hx9_1
        replace hx9_2 := (HB.out.cell (World.block_lt_of_cell? _ _ hx9_2)).trans hx9_2
        have hwf : (Lit.int .i64 (rd_T56 l1 x).f0).wf = true ∧ (Lit.int .i64 (rd_T56 l1 x).f2).wf = true := by
          have hm : rd_T56 l1 x ∈ l1 := by
            have hl : x.toNat < l1.length := by omega
            have e : rd_T56 l1 x = l1[x.toNat] := by simp [rd_T56, List.getD_eq_getElem?_getD, hl]
            rw [e]
            exact List.getElem_mem hl
          simpa using List.all_eq_true.1 C4.out _ hm
        have hsn := take_snoc_rd p9 q9
        have htl : (l1.take x.toNat).length ≤ 1000000 := Nat.le_trans (by rw [List.length_take]; exact Nat.min_le_right _ _) C5.out
        replace p9 := eq_true p9
        replace q9 := eq_true q9
        generalize rd_T56 l1 x = y at hx9_0 hx9_1 hx9_2 hwf hsn
        generalize l1.take x.toNat = pp at HMO hsn htl
        go_upto_region 7 with (first | ((with_reducible refine gate_dst (N := 8) rfl ?_); refine box_event ?hg (N := 8) ?hd (cs := #[.int .i64 0, .int .i64 0, .int .i64 0]) (t := 56) ?hr ?_; (case hd => rfl); (case hg => rfl); (case hr => first | (go_simp; done) | (go_simp; rfl)); intro gb8 hg8 w8 hbox hb; have n0_ := Aside0.mk ((hb.cell (World.block_lt_of_cell? _ _ HCX.out)).trans HCX.out); have n1_ := Aside0.mk ((hb.cell (World.block_lt_of_cell? _ _ HFC.out)).trans HFC.out); have n2_ := Aside0.mk (mapOwn_below HMO.out hb); have n3_ := Aside0.mk (below_step HB.out hb); have BK8 := Aside0.mk hbox; have hlw := Aside0.mk (show w.heap.size ≠ gb8 ∧ gbf ≠ gb8 ∧ bm ≠ gb8 ∧ w.heap.size ≤ gb8 from by have h1_ := World.block_lt_of_cell? _ _ HCX.out; have h2_ := World.block_lt_of_cell? _ _ HFC.out; have h3_ := mapOwn_lt HMO.out; have h4_ := HB.out.size; simp only at h1_ h2_; omega); clear HCX HFC HMO HB; have HCX := n0_; have HFC := n1_; have HMO := n2_; have HB := n3_; clear n0_ n1_ n2_ n3_ hb hg8; have hcz_0 : w8.cell? ⟨gb8, 0, none⟩ = some (.int .i64 0) := (blk_cell hbox 0).trans rfl; have hcz_1 : w8.cell? ⟨gb8, 1, none⟩ = some (.int .i64 0) := (blk_cell hbox 1).trans rfl; have hcz_2 : w8.cell? ⟨gb8, 2, none⟩ = some (.int .i64 0) := (blk_cell hbox 2).trans rfl; have hfz_0 := blk_frozen hbox 0; have hfz_1 := blk_frozen hbox 1; have hfz_2 := blk_frozen hbox 2; clear hbox))
        obtain ⟨hlw1, hlw2, hlw3, hlw4⟩ := hlw.out
        have n0_ : Aside0 ((((w8.setCell ⟨gb8, 0, none⟩ (.int .i64 y.f0)).setCell ⟨gb8, 1, none⟩ (.int .i64 y.f1)).setCell ⟨gb8, 2, none⟩ (.int .i64 y.f2)).cell? ⟨w.heap.size, 0, none⟩ = some (.slice (some ad9) l1.length c1)) := ⟨(cell_far hlw1 _).trans ((cell_far hlw1 _).trans ((cell_far hlw1 _).trans HCX.out))⟩
        have n1_ : Aside0 ((((w8.setCell ⟨gb8, 0, none⟩ (.int .i64 y.f0)).setCell ⟨gb8, 1, none⟩ (.int .i64 y.f1)).setCell ⟨gb8, 2, none⟩ (.int .i64 y.f2)).cell? ⟨gbf, 0, none⟩ = some (.map (some bm))) := ⟨(cell_far hlw2 _).trans ((cell_far hlw2 _).trans ((cell_far hlw2 _).trans HFC.out))⟩
        have n2_ : Aside0 (MapOwn (((w8.setCell ⟨gb8, 0, none⟩ (.int .i64 y.f0)).setCell ⟨gb8, 1, none⟩ (.int .i64 y.f1)).setCell ⟨gb8, 2, none⟩ (.int .i64 y.f2)) bm pp) := ⟨mapOwn_set (mapOwn_set (mapOwn_set HMO.out hlw3 _) hlw3 _) hlw3 _⟩
        have n3_ : Aside0 (Below w.heap.size w (((w8.setCell ⟨gb8, 0, none⟩ (.int .i64 y.f0)).setCell ⟨gb8, 1, none⟩ (.int .i64 y.f1)).setCell ⟨gb8, 2, none⟩ (.int .i64 y.f2))) := ⟨below_set (below_set (below_set HB.out hlw4) hlw4) hlw4⟩
        have n4_ : Aside0 ((((w8.setCell ⟨gb8, 0, none⟩ (.int .i64 y.f0)).setCell ⟨gb8, 1, none⟩ (.int .i64 y.f1)).setCell ⟨gb8, 2, none⟩ (.int .i64 y.f2)).heap[gb8]? = some (.cells #[.int .i64 y.f0, .int .i64 y.f1, .int .i64 y.f2] 56 (0, 0))) := ⟨by refine blk_put (cs := #[.int .i64 y.f0, .int .i64 y.f1, .int .i64 0]) ?_ 2 _ rfl; refine blk_put (cs := #[.int .i64 y.f0, .int .i64 0, .int .i64 0]) ?_ 1 _ rfl; refine blk_put (cs := #[.int .i64 0, .int .i64 0, .int .i64 0]) ?_ 0 _ rfl; exact BK8.out⟩
        clear HCX HFC HMO HB BK8 hcz_0 hcz_1 hcz_2 hfz_0 hfz_1 hfz_2 hx9_0 hx9_1 hx9_2 hlw1 hlw2 hlw3 hlw4 hlw
        generalize (((w8.setCell ⟨gb8, 0, none⟩ (.int .i64 y.f0)).setCell ⟨gb8, 1, none⟩ (.int .i64 y.f1)).setCell ⟨gb8, 2, none⟩ (.int .i64 y.f2)) = w9 at n0_ n1_ n2_ n3_ n4_ ⊢
        have HCX := n0_
        have HFC := n1_
        have HMO := n2_
        have HB := n3_
        have BK8 := n4_
        clear n0_ n1_ n2_ n3_ n4_
        have hcf := HFC.out
        have hcy_0 : w9.cell? ⟨gb8, 0, none⟩ = some (.int .i64 y.f0) := (blk_cell BK8.out 0).trans rfl
        have hcy_1 : w9.cell? ⟨gb8, 1, none⟩ = some (.int .i64 y.f1) := (blk_cell BK8.out 1).trans rfl
        have hcy_2 : w9.cell? ⟨gb8, 2, none⟩ = some (.int .i64 y.f2) := (blk_cell BK8.out 2).trans rfl
        have HX0 := h0
        have HX1 := h1
        have HLT := Aside0.mk hlt
        have ew := Aside0.mk (show wrap64 (x + 1) = x + 1 by have a_ := h0.out; have b_ := C5.out; unfold wrap64; omega)
        have HSN := Aside0.mk hsn
        clear hlt hsn h0 h1
        rcases hfm : firstM pp y.f0 with _ | d
        · have hc_ : (firstM pp y.f0).getD 0 = 0 := by rw [hfm]; rfl
          have hb_ : (firstM pp y.f0).isSome = false := by rw [hfm]; rfl
          go_wp2_with (first | (at_lookup; refine wpList_mapLook HMO.out rfl _ _ rfl y.f0 rfl rfl hwf.1 0 false hc_ hb_ ?_) | (at_mapUpdate; refine wpList_mapStore HMO.out y (Or.inl hfm) hwf.1 hwf.2 (by simp only [maxLen]; omega) rfl _ _ _ rfl rfl rfl rfl ?_; intro w11 hmo11 hg11) | go_in)
          exact ⟨⟨x + 1, by rw [ew.out], ⟨by have := HX0.out; omega⟩, ⟨by have := HLT.out; omega⟩, ⟨cell_grown HCX.out hg11 (fun e_ => by have := hgm.out; injection e_ with e_; simp only at e_; omega)⟩, ⟨cell_grown HFC.out hg11 (fun e_ => hnm.out (by injection e_))⟩, ⟨by rw [HSN.out]; exact hmo11⟩, ⟨pw_below_grown HB.out _ HB.out.size hg11 (fun k_ e_ => by cases e_; exact Nat.le_of_lt hgm.out)⟩⟩, by rw [ew.out]; have := HX0.out; have := HLT.out; simp only [intOf]; omega⟩
        · have hc_ : (firstM pp y.f0).getD 0 = d := by rw [hfm]; rfl
          have hb_ : (firstM pp y.f0).isSome = true := by rw [hfm]; rfl
          by_cases hd : y.f2 < d
          · have hd0 : decide (y.f2 < d) = true := decide_eq_true hd
            go_wp2_with (first | (at_lookup; refine wpList_mapLook HMO.out rfl _ _ rfl y.f0 rfl rfl hwf.1 d true hc_ hb_ ?_) | (at_mapUpdate; refine wpList_mapStore HMO.out y (Or.inr ⟨d, hfm, hd⟩) hwf.1 hwf.2 (by simp only [maxLen]; omega) rfl _ _ _ rfl rfl rfl rfl ?_; intro w11 hmo11 hg11) | go_in)
            exact ⟨⟨x + 1, by rw [ew.out], ⟨by have := HX0.out; omega⟩, ⟨by have := HLT.out; omega⟩, ⟨cell_grown HCX.out hg11 (fun e_ => by have := hgm.out; injection e_ with e_; simp only at e_; omega)⟩, ⟨cell_grown HFC.out hg11 (fun e_ => hnm.out (by injection e_))⟩, ⟨by rw [HSN.out]; exact hmo11⟩, ⟨pw_below_grown HB.out _ HB.out.size hg11 (fun k_ e_ => by cases e_; exact Nat.le_of_lt hgm.out)⟩⟩, by rw [ew.out]; have := HX0.out; have := HLT.out; simp only [intOf]; omega⟩
          · have hd0 : decide (y.f2 < d) = false := decide_eq_false hd
            go_wp2_with (first | (at_lookup; refine wpList_mapLook HMO.out rfl _ _ rfl y.f0 rfl rfl hwf.1 d true hc_ hb_ ?_) | (at_mapUpdate; refine wpList_mapStore HMO.out y (Or.inl (by exact absurd rfl (by assumption))) hwf.1 hwf.2 (by simp only [maxLen]; omega) rfl _ _ _ rfl rfl rfl rfl ?_; intro w11 hmo11 hg11) | go_in)
            exact ⟨⟨x + 1, by rw [ew.out], ⟨by have := HX0.out; omega⟩, ⟨by have := HLT.out; omega⟩, HCX, HFC, ⟨by rw [HSN.out]; exact mapOwn_stay HMO.out y hfm hd⟩, HB⟩, by rw [ew.out]; have := HX0.out; have := HLT.out; simp only [intOf]; omega⟩
      · have hx : x = (l1.length : Int) := by have := h1.out; omega
        subst hx
        have c9b0 : decide ((l1.length : Int) < (l1.length : Int)) = false := decide_eq_false (by omega)
        have hmo : MapOwn wr bm l1 := by have := HMO.out; rwa [Int.toNat_natCast, List.take_length] at this
        have HMO2 := Aside0.mk hmo
        clear HMO hmo hlt
        have hcxr := HCX.out
        go_wp2_with (first | ((with_reducible refine gate_callee (f := 45) rfl ?_); refine goesL_ (some 46) rfl rfl Try.func45 (by kernel_rfl) rfl #[.int .i64 (l1.length : Int), .func (.func 46) #[] #[.pointer (some ⟨w.heap.size, 0, none⟩), .pointer (some ⟨gbf, 0, none⟩)]] rfl (by (try simp only [List.map_toArray, List.map_cons, List.map_nil]); first | done | rfl) ?_; (with_reducible refine (impl_sortedBy_at_impl_FamilyOrder_1.calls (cp1 := ⟨w.heap.size, 0, none⟩) (hcp1 := ?sidecp) (cq1 := ⟨gbf, 0, none⟩) (hcq1 := ?sidecq) k (l1.length : Int) A1 c1 l1 o _ ?side1 ?side2 A5.out).mono ?_); (case sidecp => exact HCX.out); (case sidecq => exact ⟨bm, HFC.out, HMO2.out⟩); (case side1 => exact Kd.C_below HR1.out HB.out); (case side2 => exact HC1.out); rintro e w13 ⟨v20, rfl, ho0, hb⟩; refine ⟨_, rfl, ?_⟩; have n0_ := Aside0.mk (Kd.R_lower ho0 HB.out.size); have n1_ := Aside0.mk (below_step HB.out hb); clear HB; have HO20 := n0_; have HB := n1_; clear n0_ n1_ ho0 hb hcxr))
        go_ret2
        exact ⟨_, by first | rfl | (simp [*] <;> rfl), HO20.out, HB.out⟩
  · replace c3 := Bool.eq_false_iff.mpr c3
    subst c3
    rw [if_neg (show ¬ (false = true) by decide)] at h
    simp only [Option.some.injEq, Prod.mk.injEq] at h
    obtain ⟨rfl, rfl⟩ := h
    go_enter Try.func21, Try.ntmps21
    go_wp2_with (first | ((with_reducible refine gate_callee (f := 32) rfl ?_); refine goesL_ (some 13) rfl rfl Try.func32 (by kernel_rfl) rfl #[.int .i64 a0, .slice A1 l1.length c1] rfl (by (try simp only [List.map_toArray, List.map_cons, List.map_nil]); first | done | rfl) ?_; (with_reducible refine (impl_IsShop.calls k a0 _ _ l1 false _ ?side1 ?side2 A2.out).mono ?_); (case side1 => repeat (first | exact HR1.out | (with_reducible refine cA_ ?_ _) | (with_reducible refine cN_ ?_ _) | (with_reducible refine cW_ ?_))); (case side2 => exact HC1.out); rintro e w5 ⟨rfl, hb⟩; refine ⟨_, rfl, ?_⟩; have n0_ := Aside0.mk (below_step (by repeat (first | (with_reducible first | exact HB.out | apply bA_ | apply bN_ | apply bW_) | exact HB.out)) hb); clear HB; have HB := n0_; clear n0_ hb hcx))
    go_ret2
    exact ⟨_, by first | rfl | (simp [*] <;> rfl), Kd.R_nil _ _ _ _ _, HB.out⟩
/-! ### laws_big: function 25 -/
def laws_big.f (l0 : List Int) : Option (Bool) := some (decide ((l0.length : Int) > 4096))
set_option maxHeartbeats 8000000 in
set_option maxRecDepth 100000 in
theorem laws_big.calls (A0 : Option Addr) (c0 : Nat) (l0 : List Int) (r : Bool) (w : World) (hr0 : Kd.C (Kd.int .u8) w A0 l0.length l0) (hc0 : l0.length ≤ c0) (h : laws_big.f l0 = some r) :
  Calls Try.prog 25 #[.slice A0 l0.length c0] w fun e w' => e = .returned (.bool r) ∧ Drawn0 w w' := by
 have HR0 := Aside0.mk hr0
 have HC0 := Aside0.mk hc0
 clear hr0 hc0
 have H : (some (decide ((l0.length : Int) > 4096))) = some r := h
 clear h
 obtain rfl := Option.some.inj H
 go_enter Try.func25, Try.ntmps25
 go_wp2
 go_ret
 exact ⟨by first | rfl | (simp; done) | (simp [*]; done), by repeat (first | exact Drawn0.refl _ | apply Drawn0.step)⟩

/-- A state of type 92 at block g of W; what its slices lead to came in by w0. -/
def IsS92 (w0 W : World) (g : Nat) (f0 : List Int) (f1 : Int) (f2 : Int) : Prop := ∃ A0 c0, W.heap[g]? = some (.cells #[.slice A0 f0.length c0, .int .i64 f1, .int .i64 f2] 92 (0, 0)) ∧ w0.heap.size ≤ g ∧ Kd.C (Kd.int .u8) w0 A0 f0.length f0
theorem IsS92.grown {w0 W : World} {g : Nat} {f0 : List Int} {f1 : Int} {f2 : Int} {W1 : World} {row : Option Nat} (h : IsS92 w0 W g f0 f1 f2) (hw : W.grownBy W1 row) (hne : some g ≠ row) : IsS92 w0 W1 g f0 f1 f2 := by
 obtain ⟨A0, c0, hb, hg, hr0⟩ := h
 exact ⟨A0, c0, blk_grown hb hw hne, hg, hr0⟩
theorem IsS92.kept {w0 W : World} {g : Nat} {f0 : List Int} {f1 : Int} {f2 : Int} {W1 : World} {S : Nat → Prop} (h : IsS92 w0 W g f0 f1 f2) (hk : Kept W W1 S) (hne : ¬ S g) : IsS92 w0 W1 g f0 f1 f2 := by
 obtain ⟨A0, c0, hb, hg, hr0⟩ := h
 exact ⟨A0, c0, blk_kept hb hk hne, hg, hr0⟩
theorem IsS92.below {w0 W : World} {g : Nat} {f0 : List Int} {f1 : Int} {f2 : Int} {W1 : World} (h : IsS92 w0 W g f0 f1 f2) (hw : Below W.heap.size W W1) : IsS92 w0 W1 g f0 f1 f2 := h.grown (grown_of_below hw none) (by simp)
theorem IsS92.alloc {w0 W : World} {g : Nat} {f0 : List Int} {f1 : Int} {f2 : Int} (h : IsS92 w0 W g f0 f1 f2) (o : Obj) : IsS92 w0 (W.alloc o) g f0 f1 f2 := h.below (bA_ (Below.refl _ _) o)
theorem IsS92.drewN {w0 W : World} {g : Nat} {f0 : List Int} {f1 : Int} {f2 : Int} (h : IsS92 w0 W g f0 f1 f2) (m : Nat) : IsS92 w0 (W.drewN m) g f0 f1 f2 := h
theorem IsS92.drew {w0 W : World} {g : Nat} {f0 : List Int} {f1 : Int} {f2 : Int} (h : IsS92 w0 W g f0 f1 f2) : IsS92 w0 W.drew g f0 f1 f2 := h
theorem IsS92.at_ {w0 W : World} {g : Nat} {f0 : List Int} {f1 : Int} {f2 : Int} {w' : World} {m : Nat} (hq : W.drewN m = w') (h : IsS92 w0 W g f0 f1 f2) : IsS92 w0 w' g f0 f1 f2 := by subst hq; exact IsS92.drewN h m
theorem IsS92.apart {w0 W : World} {g : Nat} {f0 : List Int} {f1 : Int} {f2 : Int} {α : Type} {d : Kd α} {e : Nat} {base : Nat} {ok : Nat → Prop} {v : Value} {xs : List α} (h : IsS92 w0 W g f0 f1 f2) (ho : d.R e W base ok v xs) (ht : ∀ q, q ∈ e :: d.E → q ≠ 92) : d.R e W base (fun k => ok k ∧ k ≠ g) v xs := by
 obtain ⟨A0, c0, hb, hg, hr0⟩ := h
 exact Kd.R_types ho hb ht
theorem IsS92.own_ne {w0 W : World} {g : Nat} {f0 : List Int} {f1 : Int} {f2 : Int} {α : Type} {d : Kd α} {e : Nat} {base : Nat} {ok : Nat → Prop} {v : Value} {xs : List α} (h : IsS92 w0 W g f0 f1 f2) (ho : d.R e W base ok v xs) (ht : e ≠ 92) : some g ≠ v.ownBlock := by
 obtain ⟨A0, c0, hb, hg, hr0⟩ := h
 exact Kd.R_ne ho hb ht
theorem IsS92.lt {w0 W : World} {g : Nat} {f0 : List Int} {f1 : Int} {f2 : Int} (h : IsS92 w0 W g f0 f1 f2) : g < W.heap.size := by
 obtain ⟨A0, c0, hb, hg, hr0⟩ := h
 exact blk_lt hb
theorem IsS92.ge {w0 W : World} {g : Nat} {f0 : List Int} {f1 : Int} {f2 : Int} (h : IsS92 w0 W g f0 f1 f2) : w0.heap.size ≤ g := by
 obtain ⟨A0, c0, hb, hg, hr0⟩ := h
 exact hg
theorem IsS92.far {w0 W : World} {g : Nat} {f0 : List Int} {f1 : Int} {f2 : Int} {p : Addr} (h : IsS92 w0 W g f0 f1 f2) (hne : g ≠ p.block) (u : Value) : IsS92 w0 (W.setCell p u) g f0 f1 f2 := by
 obtain ⟨A0, c0, hb, hg, hr0⟩ := h
 exact ⟨A0, c0, blk_far hb hne u, hg, hr0⟩
theorem cellS92_0 {W : World} {g : Nat} {A0 : Option Addr} {c0 : Nat} {f0 : List Int} {f1 : Int} {f2 : Int} (h : W.heap[g]? = some (.cells #[.slice A0 f0.length c0, .int .i64 f1, .int .i64 f2] 92 (0, 0))) : W.cell? ⟨g, 0, none⟩ = some (.slice A0 f0.length c0) := (blk_cell h 0).trans rfl
theorem cellS92_1 {W : World} {g : Nat} {A0 : Option Addr} {c0 : Nat} {f0 : List Int} {f1 : Int} {f2 : Int} (h : W.heap[g]? = some (.cells #[.slice A0 f0.length c0, .int .i64 f1, .int .i64 f2] 92 (0, 0))) : W.cell? ⟨g, 1, none⟩ = some (.int .i64 f1) := (blk_cell h 1).trans rfl
theorem IsS92.set_1 {w0 W : World} {g : Nat} {f0 : List Int} {f1 : Int} {f2 : Int} (h : IsS92 w0 W g f0 f1 f2) (x : Int) : IsS92 w0 (W.setCell ⟨g, 1, none⟩ (.int .i64 x)) g f0 x f2 := by
 obtain ⟨A0, c0, hb, hg, hr0⟩ := h
 exact ⟨A0, c0, by simpa using blk_set hb 1 (.int .i64 x), hg, hr0⟩
theorem cellS92_2 {W : World} {g : Nat} {A0 : Option Addr} {c0 : Nat} {f0 : List Int} {f1 : Int} {f2 : Int} (h : W.heap[g]? = some (.cells #[.slice A0 f0.length c0, .int .i64 f1, .int .i64 f2] 92 (0, 0))) : W.cell? ⟨g, 2, none⟩ = some (.int .i64 f2) := (blk_cell h 2).trans rfl
theorem IsS92.set_2 {w0 W : World} {g : Nat} {f0 : List Int} {f1 : Int} {f2 : Int} (h : IsS92 w0 W g f0 f1 f2) (x : Int) : IsS92 w0 (W.setCell ⟨g, 2, none⟩ (.int .i64 x)) g f0 f1 x := by
 obtain ⟨A0, c0, hb, hg, hr0⟩ := h
 exact ⟨A0, c0, by simpa using blk_set hb 2 (.int .i64 x), hg, hr0⟩
theorem IsS92.new (w0 W : World) (A0 : Option Addr) (c0 : Nat) (f0 : List Int) (f1 : Int) (f2 : Int) (hB : Below w0.heap.size w0 W) (hr0 : Kd.C (Kd.int .u8) w0 A0 f0.length f0) : IsS92 w0 (W.alloc (.cells #[.slice A0 f0.length c0, .int .i64 f1, .int .i64 f2] 92)) W.heap.size f0 f1 f2 := ⟨A0, c0, by simpa using heap_alloc_new W _, hB.size, hr0⟩

/-! ### spec_l01Next: function 75 -/
def spec_l01Next.f (s0_0 : List Int) (s0_1 : Int) (s0_2 : Int) (a1 : Int) : Option (Int × Int × Int) := if a1 ≤ 1 then (some (0, s0_1, s0_2)) else (if s0_1 < (s0_0.length : Int) then (if 0 ≤ s0_1 then (if a1 ≤ 256 then (if (Int.tmod (wrap64 (s0_1 + 1)) 2) = 0 then (if 0 ≤ (wrap64 ((wrap64 (s0_1 + 1)) - 1)) then (if (wrap64 ((wrap64 (s0_1 + 1)) - 1)) < (s0_0.length : Int) then (if a1 = 0 then (none) else (some (Int.tmod (wrap64 (rd s0_0 (wrap64 ((wrap64 (s0_1 + 1)) - 1)))) a1, wrap64 (s0_1 + 1), Int.tmod (wrap64 ((wrap64 (s0_2 * 48271)) + 61)) 2147483647))) else (none)) else (none)) else (if a1 = 0 then (none) else (some (Int.tmod (wrap64 ((wrap64 (Int.tdiv (Int.tmod (wrap64 ((wrap64 (s0_2 * 48271)) + 61)) 2147483647) 31)) + (wrap64 (rd s0_0 s0_1)))) a1, wrap64 (s0_1 + 1), Int.tmod (wrap64 ((wrap64 (s0_2 * 48271)) + 61)) 2147483647)))) else (if a1 = 0 then (none) else (some (Int.tmod (wrap64 ((wrap64 (Int.tdiv (Int.tmod (wrap64 ((wrap64 (s0_2 * 48271)) + 61)) 2147483647) 31)) + (wrap64 (rd s0_0 s0_1)))) a1, wrap64 (s0_1 + 1), Int.tmod (wrap64 ((wrap64 (s0_2 * 48271)) + 61)) 2147483647)))) else (none)) else (if a1 = 0 then (none) else (some (Int.tmod (wrap64 (Int.tdiv (Int.tmod (wrap64 ((wrap64 (s0_2 * 48271)) + 61)) 2147483647) 31)) a1, s0_1, Int.tmod (wrap64 ((wrap64 (s0_2 * 48271)) + 61)) 2147483647))))
set_option maxHeartbeats 8000000 in
set_option maxRecDepth 100000 in
theorem spec_l01Next.calls (g : Nat) (s0_0 : List Int) (s0_1 : Int) (s0_2 : Int) (a1 : Int) (r1 : Int) (r2 : Int) (r3 : Int) (w0 w : World) (hI : IsS92 w0 w g s0_0 s0_1 s0_2) (hB : Below w0.heap.size w0 w) (h : spec_l01Next.f s0_0 s0_1 s0_2 a1 = some (r1, r2, r3)) :
  Calls Try.prog 75 #[.pointer (some ⟨g, 0, none⟩), .int .i64 a1] w fun e w' => e = .returned (.int .i64 r1) ∧ IsS92 w0 w' g s0_0 r2 r3 ∧ Below w0.heap.size w0 w' ∧ KeepBut w w' g none := by
 have HI0 := Aside0.mk hI
 have HK := Aside0.mk (KeepBut.refl w g none)
 have HL := Aside0.mk hB.size
 clear hI
 have HW0 := Aside0.mk hB.size
 have HB := Aside0.mk hB
 clear hB
 have H : (if a1 ≤ 1 then (some (0, s0_1, s0_2)) else (if s0_1 < (s0_0.length : Int) then (if 0 ≤ s0_1 then (if a1 ≤ 256 then (if (Int.tmod (wrap64 (s0_1 + 1)) 2) = 0 then (if 0 ≤ (wrap64 ((wrap64 (s0_1 + 1)) - 1)) then (if (wrap64 ((wrap64 (s0_1 + 1)) - 1)) < (s0_0.length : Int) then (if a1 = 0 then (none) else (some (Int.tmod (wrap64 (rd s0_0 (wrap64 ((wrap64 (s0_1 + 1)) - 1)))) a1, wrap64 (s0_1 + 1), Int.tmod (wrap64 ((wrap64 (s0_2 * 48271)) + 61)) 2147483647))) else (none)) else (none)) else (if a1 = 0 then (none) else (some (Int.tmod (wrap64 ((wrap64 (Int.tdiv (Int.tmod (wrap64 ((wrap64 (s0_2 * 48271)) + 61)) 2147483647) 31)) + (wrap64 (rd s0_0 s0_1)))) a1, wrap64 (s0_1 + 1), Int.tmod (wrap64 ((wrap64 (s0_2 * 48271)) + 61)) 2147483647)))) else (if a1 = 0 then (none) else (some (Int.tmod (wrap64 ((wrap64 (Int.tdiv (Int.tmod (wrap64 ((wrap64 (s0_2 * 48271)) + 61)) 2147483647) 31)) + (wrap64 (rd s0_0 s0_1)))) a1, wrap64 (s0_1 + 1), Int.tmod (wrap64 ((wrap64 (s0_2 * 48271)) + 61)) 2147483647)))) else (none)) else (if a1 = 0 then (none) else (some (Int.tmod (wrap64 (Int.tdiv (Int.tmod (wrap64 ((wrap64 (s0_2 * 48271)) + 61)) 2147483647) 31)) a1, s0_1, Int.tmod (wrap64 ((wrap64 (s0_2 * 48271)) + 61)) 2147483647))))) = some (r1, r2, r3) := h
 clear h
 by_cases c3 : a1 ≤ 1
 ·
  rw [if_pos c3] at H
  have c3b0 : decide (a1 ≤ 1) = true := decide_eq_true c3
  clear c3
  simp only [Option.some.injEq, Prod.mk.injEq] at H
  obtain ⟨rfl, rfl, rfl⟩ := H
  go_enter Try.func75, Try.ntmps75
  go_wp2
  repeat (go_quiet (fail); try go_wp2)
  go_ret
  exact ⟨by first | rfl | (simp [errW_none, errW_some] <;> rfl) | (simp [*, errW_none, errW_some] <;> rfl), by repeat (first | (with_reducible first | exact HI0.out | apply IsS92.alloc | apply IsS92.drewN | apply IsS92.drew | apply IsS92.set_1 | apply IsS92.set_2) | exact HI0.out), by repeat (first | (with_reducible first | exact HB.out | apply bA_ | apply bN_ | apply bW_ | refine below_set ?_ (IsS92.ge HI0.out)) | exact HB.out), by repeat (first | (with_reducible first | exact HK.out | apply KeepBut.set_ | apply keep_drewN | apply keep_drew | apply keep_alloc) | exact HK.out)⟩
 ·
  rw [if_neg c3] at H
  have c3b0 : decide (a1 ≤ 1) = false := decide_eq_false c3
  clear c3
  by_cases c4 : s0_1 < (s0_0.length : Int)
  ·
   rw [if_pos c4] at H
   have c4b0 : decide (s0_1 < (s0_0.length : Int)) = true := decide_eq_true c4
   clear c4
   by_cases c5 : 0 ≤ s0_1
   ·
    rw [if_pos c5] at H
    have c5b0 : decide (0 ≤ s0_1) = true := decide_eq_true c5
    clear c5
    by_cases c6 : a1 ≤ 256
    ·
     rw [if_pos c6] at H
     have c6b0 : decide (a1 ≤ 256) = true := decide_eq_true c6
     clear c6
     by_cases c7 : (Int.tmod (wrap64 (s0_1 + 1)) 2) = 0
     ·
      rw [if_pos c7] at H
      have c7b0 : ((Int.tmod (wrap64 (s0_1 + 1)) 2) == 0) = true := beq_iff_eq.mpr c7
      have c7b1 : ((Int.tmod (wrap64 (s0_1 + 1)) 2) != 0) = false := bne_eq_false_iff_eq.mpr c7
      clear c7
      obtain ⟨ji8, hji8⟩ : ∃ j_ : Int, (wrap64 ((wrap64 (s0_1 + 1)) - 1)) = j_ := ⟨_, rfl⟩
      replace H : (if 0 ≤ (ji8) then (if (ji8) < (s0_0.length : Int) then (if a1 = 0 then (none) else (some (Int.tmod (wrap64 (rd s0_0 (ji8))) a1, wrap64 (s0_1 + 1), Int.tmod (wrap64 ((wrap64 (s0_2 * 48271)) + 61)) 2147483647))) else (none)) else (none)) = some (r1, r2, r3) := by first | (rw [hji8] at H; exact H) | (simp only [hji8] at H ⊢; exact H)
      have hji8w : (IntKind.i64.wrap ((wrap64 (s0_1 + 1)) - 1)) = ji8 := (i64_w _).trans hji8
      by_cases c9 : 0 ≤ (ji8)
      ·
       rw [if_pos c9] at H
       have c9b0 : decide (0 ≤ (ji8)) = true := decide_eq_true c9
       clear c9
       by_cases c10 : (ji8) < (s0_0.length : Int)
       ·
        rw [if_pos c10] at H
        have c10b0 : decide ((ji8) < (s0_0.length : Int)) = true := decide_eq_true c10
        clear c10
        by_cases c11 : a1 = 0
        ·
         rw [if_pos c11] at H
         exact absurd H (by simp)
        ·
         rw [if_neg c11] at H
         have c11b0 : (a1 == 0) = false := beq_eq_false_iff_ne.mpr c11
         have c11b1 : (a1 != 0) = true := bne_iff_ne.mpr c11
         simp only [Option.some.injEq, Prod.mk.injEq] at H
         obtain ⟨rfl, rfl, rfl⟩ := H
         obtain ⟨ASz12_0, cSz12_0, HGz12, hgz12, HSz12_0⟩ := HI0.out
         have hcz12_0 := cellS92_0 HGz12
         have hcz12_1 := cellS92_1 HGz12
         have hcz12_2 := cellS92_2 HGz12
         have hfz12_1 := blk_frozen HGz12 1
         have hfz12_2 := blk_frozen HGz12 2
         clear HGz12 hgz12
         have p214 : 0 ≤ (s0_1 : Int) := of_decide_eq_true (by first | (with_reducible assumption) | assumption)
         have q214 : s0_1 < (s0_0.length : Int) := of_decide_eq_true (by first | (with_reducible assumption) | assumption)
         obtain ⟨ad214, e214, hx214_0⟩ := Kd.at_int HSz12_0 s0_1 p214 q214
         cases e214
         have hn214_0 : ad214.block ≠ g := Nat.ne_of_lt (Nat.lt_of_lt_of_le (by have := World.block_lt_of_cell? _ _ hx214_0; first | rwa [add_block] at this | exact this) (IsS92.ge HI0.out))
         replace hx214_0 := pw_cell_below HB.out hx214_0
         replace hx214_0 := (cell_far (p := ⟨g, 2, none⟩) (by first | (rw [add_block]; exact hn214_0) | (show (Addr.add _ _).block ≠ _; rw [add_block]; exact hn214_0) | exact hn214_0) (.int .i64 (Int.tmod (wrap64 ((wrap64 (s0_2 * 48271)) + 61)) 2147483647))).trans hx214_0
         (try have hy214_0 := fun (n_ : Nat) => (show (((w.drewN n_).setCell ⟨g, 2, none⟩ (.int .i64 (Int.tmod (wrap64 ((wrap64 (s0_2 * 48271)) + 61)) 2147483647)))).cell? _ = some _ from hx214_0))
         clear hn214_0
         replace p214 := eq_true p214
         replace q214 := eq_true q214
         have p215 : 0 ≤ ((ji8) : Int) := of_decide_eq_true (by first | (with_reducible assumption) | assumption)
         have q215 : (ji8) < (s0_0.length : Int) := of_decide_eq_true (by first | (with_reducible assumption) | assumption)
         obtain ⟨ad215, e215, hx215_0⟩ := Kd.at_int HSz12_0 (ji8) p215 q215
         obtain rfl : ad214 = ad215 := (by injection e215)
         have hn215_0 : ad214.block ≠ g := Nat.ne_of_lt (Nat.lt_of_lt_of_le (by have := World.block_lt_of_cell? _ _ hx215_0; first | rwa [add_block] at this | exact this) (IsS92.ge HI0.out))
         have hn215_1 : ad214.block ≠ g := Nat.ne_of_lt (Nat.lt_of_lt_of_le (by have := World.block_lt_of_cell? _ _ hx215_0; first | rwa [add_block] at this | exact this) (IsS92.ge HI0.out))
         replace hx215_0 := pw_cell_below HB.out hx215_0
         replace hx215_0 := (cell_far (p := ⟨g, 2, none⟩) (by first | (rw [add_block]; exact hn215_0) | (show (Addr.add _ _).block ≠ _; rw [add_block]; exact hn215_0) | exact hn215_0) (.int .i64 (Int.tmod (wrap64 ((wrap64 (s0_2 * 48271)) + 61)) 2147483647))).trans hx215_0
         replace hx215_0 := (cell_far (p := ⟨g, 1, none⟩) (by first | (rw [add_block]; exact hn215_1) | (show (Addr.add _ _).block ≠ _; rw [add_block]; exact hn215_1) | exact hn215_1) (.int .i64 (wrap64 (s0_1 + 1)))).trans hx215_0
         (try have hy215_0 := fun (n_ : Nat) => (show ((((w.drewN n_).setCell ⟨g, 2, none⟩ (.int .i64 (Int.tmod (wrap64 ((wrap64 (s0_2 * 48271)) + 61)) 2147483647))).setCell ⟨g, 1, none⟩ (.int .i64 (wrap64 (s0_1 + 1))))).cell? _ = some _ from hx215_0))
         (try have hy215_0_2 := fun (n1_ : Nat) => (show ((((w.setCell ⟨g, 2, none⟩ (.int .i64 (Int.tmod (wrap64 ((wrap64 (s0_2 * 48271)) + 61)) 2147483647))).drewN n1_).setCell ⟨g, 1, none⟩ (.int .i64 (wrap64 (s0_1 + 1))))).cell? _ = some _ from hx215_0))
         (try have hy215_0_3 := fun (n0_ n1_ : Nat) => (show (((((w.drewN n0_).setCell ⟨g, 2, none⟩ (.int .i64 (Int.tmod (wrap64 ((wrap64 (s0_2 * 48271)) + 61)) 2147483647))).drewN n1_).setCell ⟨g, 1, none⟩ (.int .i64 (wrap64 (s0_1 + 1))))).cell? _ = some _ from hx215_0))
         clear hn215_0
         clear hn215_1
         replace p215 := eq_true p215
         replace q215 := eq_true q215
         go_enter Try.func75, Try.ntmps75
         go_wp2
         repeat (go_quiet (fail); try go_wp2)
         go_ret
         exact ⟨by first | rfl | (simp [errW_none, errW_some] <;> rfl) | (simp only [← hji8]; first | rfl | (simp [errW_none, errW_some] <;> rfl)) | (simp [*, errW_none, errW_some] <;> rfl), by repeat (first | (with_reducible first | exact HI0.out | apply IsS92.alloc | apply IsS92.drewN | apply IsS92.drew | apply IsS92.set_1 | apply IsS92.set_2) | exact HI0.out), by repeat (first | (with_reducible first | exact HB.out | apply bA_ | apply bN_ | apply bW_ | refine below_set ?_ (IsS92.ge HI0.out)) | exact HB.out), by repeat (first | (with_reducible first | exact HK.out | apply KeepBut.set_ | apply keep_drewN | apply keep_drew | apply keep_alloc) | exact HK.out)⟩
       ·
        rw [if_neg c10] at H
        exact absurd H (by simp)
      ·
       rw [if_neg c9] at H
       exact absurd H (by simp)
     ·
      rw [if_neg c7] at H
      have c7b0 : ((Int.tmod (wrap64 (s0_1 + 1)) 2) == 0) = false := beq_eq_false_iff_ne.mpr c7
      have c7b1 : ((Int.tmod (wrap64 (s0_1 + 1)) 2) != 0) = true := bne_iff_ne.mpr c7
      by_cases c13 : a1 = 0
      ·
       rw [if_pos c13] at H
       exact absurd H (by simp)
      ·
       rw [if_neg c13] at H
       have c13b0 : (a1 == 0) = false := beq_eq_false_iff_ne.mpr c13
       have c13b1 : (a1 != 0) = true := bne_iff_ne.mpr c13
       simp only [Option.some.injEq, Prod.mk.injEq] at H
       obtain ⟨rfl, rfl, rfl⟩ := H
       obtain ⟨ASz14_0, cSz14_0, HGz14, hgz14, HSz14_0⟩ := HI0.out
       have hcz14_0 := cellS92_0 HGz14
       have hcz14_1 := cellS92_1 HGz14
       have hcz14_2 := cellS92_2 HGz14
       have hfz14_1 := blk_frozen HGz14 1
       have hfz14_2 := blk_frozen HGz14 2
       clear HGz14 hgz14
       have p214 : 0 ≤ (s0_1 : Int) := of_decide_eq_true (by first | (with_reducible assumption) | assumption)
       have q214 : s0_1 < (s0_0.length : Int) := of_decide_eq_true (by first | (with_reducible assumption) | assumption)
       obtain ⟨ad214, e214, hx214_0⟩ := Kd.at_int HSz14_0 s0_1 p214 q214
       cases e214
       have hn214_0 : ad214.block ≠ g := Nat.ne_of_lt (Nat.lt_of_lt_of_le (by have := World.block_lt_of_cell? _ _ hx214_0; first | rwa [add_block] at this | exact this) (IsS92.ge HI0.out))
       replace hx214_0 := pw_cell_below HB.out hx214_0
       replace hx214_0 := (cell_far (p := ⟨g, 2, none⟩) (by first | (rw [add_block]; exact hn214_0) | (show (Addr.add _ _).block ≠ _; rw [add_block]; exact hn214_0) | exact hn214_0) (.int .i64 (Int.tmod (wrap64 ((wrap64 (s0_2 * 48271)) + 61)) 2147483647))).trans hx214_0
       (try have hy214_0 := fun (n_ : Nat) => (show (((w.drewN n_).setCell ⟨g, 2, none⟩ (.int .i64 (Int.tmod (wrap64 ((wrap64 (s0_2 * 48271)) + 61)) 2147483647)))).cell? _ = some _ from hx214_0))
       clear hn214_0
       replace p214 := eq_true p214
       replace q214 := eq_true q214
       go_enter Try.func75, Try.ntmps75
       go_wp2
       repeat (go_quiet (fail); try go_wp2)
       go_ret
       exact ⟨by first | rfl | (simp [errW_none, errW_some] <;> rfl) | (simp [*, errW_none, errW_some] <;> rfl), by repeat (first | (with_reducible first | exact HI0.out | apply IsS92.alloc | apply IsS92.drewN | apply IsS92.drew | apply IsS92.set_1 | apply IsS92.set_2) | exact HI0.out), by repeat (first | (with_reducible first | exact HB.out | apply bA_ | apply bN_ | apply bW_ | refine below_set ?_ (IsS92.ge HI0.out)) | exact HB.out), by repeat (first | (with_reducible first | exact HK.out | apply KeepBut.set_ | apply keep_drewN | apply keep_drew | apply keep_alloc) | exact HK.out)⟩
    ·
     rw [if_neg c6] at H
     have c6b0 : decide (a1 ≤ 256) = false := decide_eq_false c6
     clear c6
     by_cases c15 : a1 = 0
     ·
      rw [if_pos c15] at H
      exact absurd H (by simp)
     ·
      rw [if_neg c15] at H
      have c15b0 : (a1 == 0) = false := beq_eq_false_iff_ne.mpr c15
      have c15b1 : (a1 != 0) = true := bne_iff_ne.mpr c15
      simp only [Option.some.injEq, Prod.mk.injEq] at H
      obtain ⟨rfl, rfl, rfl⟩ := H
      obtain ⟨ASz16_0, cSz16_0, HGz16, hgz16, HSz16_0⟩ := HI0.out
      have hcz16_0 := cellS92_0 HGz16
      have hcz16_1 := cellS92_1 HGz16
      have hcz16_2 := cellS92_2 HGz16
      have hfz16_1 := blk_frozen HGz16 1
      have hfz16_2 := blk_frozen HGz16 2
      clear HGz16 hgz16
      have p214 : 0 ≤ (s0_1 : Int) := of_decide_eq_true (by first | (with_reducible assumption) | assumption)
      have q214 : s0_1 < (s0_0.length : Int) := of_decide_eq_true (by first | (with_reducible assumption) | assumption)
      obtain ⟨ad214, e214, hx214_0⟩ := Kd.at_int HSz16_0 s0_1 p214 q214
      cases e214
      have hn214_0 : ad214.block ≠ g := Nat.ne_of_lt (Nat.lt_of_lt_of_le (by have := World.block_lt_of_cell? _ _ hx214_0; first | rwa [add_block] at this | exact this) (IsS92.ge HI0.out))
      replace hx214_0 := pw_cell_below HB.out hx214_0
      replace hx214_0 := (cell_far (p := ⟨g, 2, none⟩) (by first | (rw [add_block]; exact hn214_0) | (show (Addr.add _ _).block ≠ _; rw [add_block]; exact hn214_0) | exact hn214_0) (.int .i64 (Int.tmod (wrap64 ((wrap64 (s0_2 * 48271)) + 61)) 2147483647))).trans hx214_0
      (try have hy214_0 := fun (n_ : Nat) => (show (((w.drewN n_).setCell ⟨g, 2, none⟩ (.int .i64 (Int.tmod (wrap64 ((wrap64 (s0_2 * 48271)) + 61)) 2147483647)))).cell? _ = some _ from hx214_0))
      clear hn214_0
      replace p214 := eq_true p214
      replace q214 := eq_true q214
      go_enter Try.func75, Try.ntmps75
      go_wp2
      repeat (go_quiet (fail); try go_wp2)
      go_ret
      exact ⟨by first | rfl | (simp [errW_none, errW_some] <;> rfl) | (simp [*, errW_none, errW_some] <;> rfl), by repeat (first | (with_reducible first | exact HI0.out | apply IsS92.alloc | apply IsS92.drewN | apply IsS92.drew | apply IsS92.set_1 | apply IsS92.set_2) | exact HI0.out), by repeat (first | (with_reducible first | exact HB.out | apply bA_ | apply bN_ | apply bW_ | refine below_set ?_ (IsS92.ge HI0.out)) | exact HB.out), by repeat (first | (with_reducible first | exact HK.out | apply KeepBut.set_ | apply keep_drewN | apply keep_drew | apply keep_alloc) | exact HK.out)⟩
   ·
    rw [if_neg c5] at H
    exact absurd H (by simp)
  ·
   rw [if_neg c4] at H
   have c4b0 : decide (s0_1 < (s0_0.length : Int)) = false := decide_eq_false c4
   clear c4
   by_cases c17 : a1 = 0
   ·
    rw [if_pos c17] at H
    exact absurd H (by simp)
   ·
    rw [if_neg c17] at H
    have c17b0 : (a1 == 0) = false := beq_eq_false_iff_ne.mpr c17
    have c17b1 : (a1 != 0) = true := bne_iff_ne.mpr c17
    simp only [Option.some.injEq, Prod.mk.injEq] at H
    obtain ⟨rfl, rfl, rfl⟩ := H
    obtain ⟨ASz18_0, cSz18_0, HGz18, hgz18, HSz18_0⟩ := HI0.out
    have hcz18_0 := cellS92_0 HGz18
    have hcz18_1 := cellS92_1 HGz18
    have hcz18_2 := cellS92_2 HGz18
    have hfz18_1 := blk_frozen HGz18 1
    have hfz18_2 := blk_frozen HGz18 2
    clear HGz18 hgz18
    go_enter Try.func75, Try.ntmps75
    go_wp2
    repeat (go_quiet (fail); try go_wp2)
    go_ret
    exact ⟨by first | rfl | (simp [errW_none, errW_some] <;> rfl) | (simp [*, errW_none, errW_some] <;> rfl), by repeat (first | (with_reducible first | exact HI0.out | apply IsS92.alloc | apply IsS92.drewN | apply IsS92.drew | apply IsS92.set_1 | apply IsS92.set_2) | exact HI0.out), by repeat (first | (with_reducible first | exact HB.out | apply bA_ | apply bN_ | apply bW_ | refine below_set ?_ (IsS92.ge HI0.out)) | exact HB.out), by repeat (first | (with_reducible first | exact HK.out | apply KeepBut.set_ | apply keep_drewN | apply keep_drew | apply keep_alloc) | exact HK.out)⟩

end Go.Proofs.Ytcieonfpmchdkaa.PFnBestOrders
