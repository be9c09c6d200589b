/- FnExact or law 'FnBestOrders': for every input the call returns true, and the arguments read as before. No condition. -/
import Derived.Test.YtcieonfpmchdkaaRows
import Derived.Test.YtcieonfpmchdkaaPFnBestOrdersx15
import Derived.Test.YtcieonfpmchdkaaPureFnBestOrders
import Derived.Test.YtcieonfpmchdkaaXRow
import Derived.Test.YtcieonfpmchdkaaXRow8
import Derived.WalkKit
import Derived.ProofKit
import Derived.OpenShut
import Derived.ShutString
import Derived.ChangeOld
import Derived.Below
import Derived.SizedLaws
import Derived.Lib.SmallJoins
namespace Go.Proofs.Ytcieonfpmchdkaa.fnBestOrders
open Go.Joins Go.ChangeShapes Go.WideShapes Go.ChangeAt Go.RowKit Go.Deep Go.Proofs.YtcieonfpmchdkaaW.PrintWords Go.Proofs.YtcieonfpmchdkaaX
open Go.ChangeMaps (open_string shut_string)
set_option linter.unusedVariables false
set_option linter.unusedSimpArgs false
theorem own : ownKnob Try.prog.godebug = none := by kernel_rfl
theorem laidOut : laidOutB Try.prog = true := by kernel_rfl
set_option maxRecDepth 100000 in
theorem lifted (os : Os) (started : os.Started) (H : Type) (enc : TypeId × Value → H) :
    ReturnsInHanded {} Try.checked os 5 .any (Rows.fnBestOrdersSpec.pre6 enc Try.prog Try.f5 Rows.fnBestOrdersRow.domain false) (Rows.fnBestOrdersSpec.post enc Try.prog Try.f5 false true false false) := by
  refine returnsInHanded_of_change_sized (C := Try.checked) own started (by kernel_rfl) Try.func5
    (ChangeSpec.witness6 (enc := enc) (C := Try.checked) false ⟨#[], #[.slice none 0 0], []⟩ 8 (by kernel_rfl) (by kernel_rfl) (by kernel_rfl) (by kernel_rfl)) ?_
  intro W base args ds gs before hval0 hW hcnd hsz0 _
  have hsz : (DataW.weightsEach Try.prog (Try.f5.params.toList ++ Rows.fnBestOrdersSpec.plain.varTypes Try.prog) (ds ++ gs)).all (· ≤ reachBytes) = true := hsz0
  have hval : ∀ (j : Nat) t v, Try.f5.params[j]? = some t → args[j]? = some v → Value.okWide Try.prog W .any base t v := hval0
  have hW' := hW
  obtain ⟨p, q, hA0, hV, rfl, hfz, hnd⟩ := hW
  have hA : DataW.TrodAll enc Try.prog W 0 (fun _ => true) true Try.f5.params.toList args.toList ds p := hA0
  rw [Try.params5] at hA hval hsz
  obtain ⟨v0, vs0, d0, ds0, p0, q0, hargs, rfl, rfl, h0, r0⟩ := trodAll_cons hA
  obtain ⟨rfl, rfl, rfl⟩ := trodAll_nil r0
  obtain rfl : args = #[v0] := by cases args; simp_all
  obtain ⟨rfl, rfl⟩ := trodVars_none hV
  have k0 := h0
  have lt0 : ∀ x ∈ p0, x.block < W.heap.size := by obtain ⟨m, hm⟩ := k0; exact DataW.trod_lt m _ _ _ hm
  obtain ⟨a0, len0, cap0, rfl⟩ := okWide_slice Try.underlying47 (hval 0 47 v0 rfl rfl)
  obtain ⟨l0, hl0, hc0, hr0, hw0, hx0⟩ := open_cells8 (len := len0) (Kd.int .u8) (fun f => f 0) 1 rfl (fun w f => rfl) Try.underlying47 (by kernel_rfl) (el_int8 Try.underlying5) h0
  subst hl0
  have y0 : l0.length * 1 ≤ 140737488351232 := sized_of hsz (j := 0) (t := 47) rfl rfl Try.underlying47 (by kernel_rfl) hx0
  have z0 : ∀ x ∈ l0, (Lit.int .u8 x).wf = true := by
    intro x hx
    obtain ⟨f, rfl, hf⟩ := hw0 x hx
    exact hf 0 (by omega)
  clear hA0 hval0 hsz0 hsz
  refine (PFnBestOrders.laws_FnBestOrders.walk Pure.FnBestOrders a0 cap0 l0 W y0 z0 hr0 hc0).mono fun e W' ⟨he, bel⟩ => ?_
  subst he
  exact ⟨_, rfl, _, _, _, [], _, [], hW', trodAll_mk1 (shut_bool Try.underlying4 _), (trodAll_cons_mk (Below.trod laidOut (by kernel_rfl) (of_decide_eq_true (by kernel_rfl)) k0 bel lt0) trodAll_mk0), rfl, bel.frame _, fun h => by cases h⟩
theorem over : Rows.fnBestOrdersRow.holds Try.pinned (OpenSpec.ofChange Rows.fnBestOrdersSpec) :=
  OpenClaim.holds_of_wide 5 Try.f5 rfl rfl rfl rfl rfl rfl rfl ⟨rfl, rfl, rfl, rfl, rfl⟩ rfl rfl rfl rfl rfl (by kernel_rfl) Try.func5 (by kernel_rfl)
    (of_decide_eq_true (by kernel_rfl)) (by unfold Func.isWrapper; first | (rw [if_pos (by decide +kernel)]; kernel_rfl) | (rw [if_neg (by decide +kernel)]; exact ⟨rfl, rfl⟩))
    (fun os started H enc _ => lifted os started H enc)
theorem proved : Rows.FnBestOrdersSaid := over
#print axioms proved
end Go.Proofs.Ytcieonfpmchdkaa.fnBestOrders
namespace Go.Proofs.Ytcieonfpmchdkaa
/-- The row, under a short name, for the claim. -/
theorem fnBestOrders_holds : Rows.FnBestOrdersSaid := fnBestOrders.proved
end Go.Proofs.Ytcieonfpmchdkaa
