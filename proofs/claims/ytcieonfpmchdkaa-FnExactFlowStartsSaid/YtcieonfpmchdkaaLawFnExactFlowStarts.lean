/- FnExact or law 'FnExactFlowStarts': for every input the call returns true, and the arguments read as before. No condition. -/
import Derived.Test.YtcieonfpmchdkaaRows
import Derived.Test.YtcieonfpmchdkaaPFnExactFlowStartsx5
import Derived.Test.YtcieonfpmchdkaaPureFnExactFlowStarts
import Derived.Test.YtcieonfpmchdkaaXRow
import Derived.WalkKit
import Derived.ProofKit
import Derived.OpenShut
import Derived.ShutString
import Derived.ChangeOld
import Derived.Below
import Derived.SizedLaws
import Derived.Lib.SmallJoins
namespace Go.Proofs.Ytcieonfpmchdkaa.fnExactFlowStarts
open Go.Joins Go.ChangeShapes Go.WideShapes Go.ChangeAt Go.RowKit Go.Deep Go.Proofs.YtcieonfpmchdkaaW.PrintWords Go.Proofs.YtcieonfpmchdkaaX
open Go.ChangeMaps (open_string shut_string)
set_option linter.unusedVariables false
set_option linter.unusedSimpArgs false
theorem own : ownKnob Try.prog.godebug = none := by kernel_rfl
theorem laidOut : laidOutB Try.prog = true := by kernel_rfl
set_option maxRecDepth 100000 in
theorem lifted (os : Os) (started : os.Started) (H : Type) (enc : TypeId × Value → H) :
    ReturnsInHanded {} Try.checked os 3 .any (Rows.fnExactFlowStartsSpec.pre6 enc Try.prog Try.f3 Rows.fnExactFlowStartsRow.domain false) (Rows.fnExactFlowStartsSpec.post enc Try.prog Try.f3 false true false false) := by
  refine returnsInHanded_of_change_sized (C := Try.checked) own started (by kernel_rfl) Try.func3
    (ChangeSpec.witness6 (enc := enc) (C := Try.checked) false ⟨#[], #[.slice none 0 0, .slice none 0 0], []⟩ 8 (by kernel_rfl) (by kernel_rfl) (by kernel_rfl) (by kernel_rfl)) ?_
  intro W base args ds gs before hval0 hW hcnd hsz0 _
  have hsz : (DataW.weightsEach Try.prog (Try.f3.params.toList ++ Rows.fnExactFlowStartsSpec.plain.varTypes Try.prog) (ds ++ gs)).all (· ≤ reachBytes) = true := hsz0
  have hval : ∀ (j : Nat) t v, Try.f3.params[j]? = some t → args[j]? = some v → Value.okWide Try.prog W .any base t v := hval0
  have hW' := hW
  obtain ⟨p, q, hA0, hV, rfl, hfz, hnd⟩ := hW
  have hA : DataW.TrodAll enc Try.prog W 0 (fun _ => true) true Try.f3.params.toList args.toList ds p := hA0
  rw [Try.params3] at hA hval hsz
  obtain ⟨v0, vs0, d0, ds0, p0, q0, hargs, rfl, rfl, h0, r0⟩ := trodAll_cons hA
  obtain ⟨v1, vs1, d1, ds1, p1, q1, rfl, rfl, rfl, h1, r1⟩ := trodAll_cons r0
  obtain ⟨rfl, rfl, rfl⟩ := trodAll_nil r1
  obtain rfl : args = #[v0, v1] := by cases args; simp_all
  obtain ⟨rfl, rfl⟩ := trodVars_none hV
  have k0 := h0
  have lt0 : ∀ x ∈ p0, x.block < W.heap.size := by obtain ⟨m, hm⟩ := k0; exact DataW.trod_lt m _ _ _ hm
  obtain ⟨a0, len0, cap0, rfl⟩ := okWide_slice Try.underlying22 (hval 0 22 v0 rfl rfl)
  obtain ⟨l0, hl0, hc0, hr0, hw0, hx0⟩ := open_cells (len := len0) PFnExactFlowStarts.k61 (fun f => (⟨f 0, f 1⟩)) 2 rfl (fun w f => by first | exact PFnExactFlowStarts.k61_mk w _ | rfl) Try.underlying22 (by kernel_rfl) (el_struct Try.underlying61 (by kernel_rfl) (by kernel_rfl) rfl (by kernel_rfl)) h0
  subst hl0
  have y0 : l0.length * 16 ≤ 140737488351232 := sized_of hsz (j := 0) (t := 22) rfl rfl Try.underlying22 (by kernel_rfl) hx0
  have z0 : ∀ x ∈ l0, (Lit.int .i64 x.f0).wf = true ∧ (Lit.int .i64 x.f1).wf = true := by
    intro x hx
    obtain ⟨f, rfl, hf⟩ := hw0 x hx
    exact ⟨hf 0 (by omega), hf 1 (by omega)⟩
  have k1 := h1
  have lt1 : ∀ x ∈ p1, x.block < W.heap.size := by obtain ⟨m, hm⟩ := k1; exact DataW.trod_lt m _ _ _ hm
  obtain ⟨a1, len1, cap1, rfl⟩ := okWide_slice Try.underlying23 (hval 1 23 v1 rfl rfl)
  obtain ⟨l1, hl1, hc1, hr1, hw1, hx1⟩ := open_cells (len := len1) (Kd.int .i64) (fun f => f 0) 1 rfl (fun w f => rfl) Try.underlying23 (by kernel_rfl) (el_int Try.underlying2) h1
  subst hl1
  have y1 : l1.length * 8 ≤ 140737488351232 := sized_of hsz (j := 1) (t := 23) rfl rfl Try.underlying23 (by kernel_rfl) hx1
  have z1 : ∀ x ∈ l1, (Lit.int .i64 x).wf = true := by
    intro x hx
    obtain ⟨f, rfl, hf⟩ := hw1 x hx
    exact hf 0 (by omega)
  clear hA0 hval0 hsz0 hsz
  refine (PFnExactFlowStarts.laws_FnExactFlowStarts.walk Pure.FnExactFlowStarts a0 cap0 l0 a1 cap1 l1 W y0 z0 hr0 hc0 y1 z1 hr1 hc1).mono fun e W' ⟨he, bel⟩ => ?_
  subst he
  exact ⟨_, rfl, _, _, _, [], _, [], hW', trodAll_mk1 (shut_bool Try.underlying4 _), (trodAll_cons_mk (Below.trod laidOut (by kernel_rfl) (of_decide_eq_true (by kernel_rfl)) k0 bel lt0) (trodAll_cons_mk (Below.trod laidOut (by kernel_rfl) (of_decide_eq_true (by kernel_rfl)) k1 bel lt1) trodAll_mk0)), rfl, bel.frame _, fun h => by cases h⟩
theorem over : Rows.fnExactFlowStartsRow.holds Try.pinned (OpenSpec.ofChange Rows.fnExactFlowStartsSpec) :=
  OpenClaim.holds_of_wide 3 Try.f3 rfl rfl rfl rfl rfl rfl rfl ⟨rfl, rfl, rfl, rfl, rfl⟩ rfl rfl rfl rfl rfl (by kernel_rfl) Try.func3 (by kernel_rfl)
    (of_decide_eq_true (by kernel_rfl)) (by unfold Func.isWrapper; first | (rw [if_pos (by decide +kernel)]; kernel_rfl) | (rw [if_neg (by decide +kernel)]; exact ⟨rfl, rfl⟩))
    (fun os started H enc _ => lifted os started H enc)
theorem proved : Rows.FnExactFlowStartsSaid := over
#print axioms proved
end Go.Proofs.Ytcieonfpmchdkaa.fnExactFlowStarts
namespace Go.Proofs.Ytcieonfpmchdkaa
/-- The row, under a short name, for the claim. -/
theorem fnExactFlowStarts_holds : Rows.FnExactFlowStartsSaid := fnExactFlowStarts.proved
end Go.Proofs.Ytcieonfpmchdkaa
