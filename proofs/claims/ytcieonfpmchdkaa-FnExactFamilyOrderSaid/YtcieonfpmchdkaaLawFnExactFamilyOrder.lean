/- FnExact or law 'FnExactFamilyOrder': for every input the call returns true, and the arguments read as before. No condition. -/
import Derived.Test.YtcieonfpmchdkaaRows
import Derived.Test.YtcieonfpmchdkaaPFnExactFamilyOrderx9
import Derived.Test.YtcieonfpmchdkaaPureFnExactFamilyOrder
import Derived.Test.YtcieonfpmchdkaaXRow
import Derived.WalkKit
import Derived.ProofKit
import Derived.OpenShut
import Derived.ShutString
import Derived.ChangeOld
import Derived.Below
import Derived.SizedLaws
import Derived.Lib.SmallJoins
namespace Go.Proofs.Ytcieonfpmchdkaa.fnExactFamilyOrder
open Go.Joins Go.ChangeShapes Go.WideShapes Go.ChangeAt Go.RowKit Go.Deep Go.Proofs.YtcieonfpmchdkaaW.PrintWords Go.Proofs.YtcieonfpmchdkaaX
open Go.ChangeMaps (open_string shut_string)
set_option linter.unusedVariables false
set_option linter.unusedSimpArgs false
theorem own : ownKnob Try.prog.godebug = none := by kernel_rfl
theorem laidOut : laidOutB Try.prog = true := by kernel_rfl
set_option maxRecDepth 100000 in
theorem lifted (os : Os) (started : os.Started) (H : Type) (enc : TypeId × Value → H) :
    ReturnsInHanded {} Try.checked os 4 .any (Rows.fnExactFamilyOrderSpec.pre6 enc Try.prog Try.f4 Rows.fnExactFamilyOrderRow.domain false) (Rows.fnExactFamilyOrderSpec.post enc Try.prog Try.f4 false true false false) := by
  refine returnsInHanded_of_change_sized (C := Try.checked) own started (by kernel_rfl) Try.func4
    (ChangeSpec.witness6 (enc := enc) (C := Try.checked) false ⟨#[], #[.int .i64 0, .slice none 0 0], []⟩ 8 (by kernel_rfl) (by kernel_rfl) (by kernel_rfl) (by kernel_rfl)) ?_
  intro W base args ds gs before hval0 hW hcnd hsz0 _
  have hsz : (DataW.weightsEach Try.prog (Try.f4.params.toList ++ Rows.fnExactFamilyOrderSpec.plain.varTypes Try.prog) (ds ++ gs)).all (· ≤ reachBytes) = true := hsz0
  have hval : ∀ (j : Nat) t v, Try.f4.params[j]? = some t → args[j]? = some v → Value.okWide Try.prog W .any base t v := hval0
  have hW' := hW
  obtain ⟨p, q, hA0, hV, rfl, hfz, hnd⟩ := hW
  have hA : DataW.TrodAll enc Try.prog W 0 (fun _ => true) true Try.f4.params.toList args.toList ds p := hA0
  rw [Try.params4] at hA hval hsz
  obtain ⟨v0, vs0, d0, ds0, p0, q0, hargs, rfl, rfl, h0, r0⟩ := trodAll_cons hA
  obtain ⟨v1, vs1, d1, ds1, p1, q1, rfl, rfl, rfl, h1, r1⟩ := trodAll_cons r0
  obtain ⟨rfl, rfl, rfl⟩ := trodAll_nil r1
  obtain rfl : args = #[v0, v1] := by cases args; simp_all
  obtain ⟨rfl, rfl⟩ := trodVars_none hV
  obtain ⟨a0, rfl, rfl, rfl, w0⟩ := open_int Try.underlying2 (hval 0 2 v0 rfl rfl) h0
  have k1 := h1
  have lt1 : ∀ x ∈ p1, x.block < W.heap.size := by obtain ⟨m, hm⟩ := k1; exact DataW.trod_lt m _ _ _ hm
  obtain ⟨a1, len1, cap1, rfl⟩ := okWide_slice Try.underlying38 (hval 1 38 v1 rfl rfl)
  obtain ⟨l1, hl1, hc1, hr1, hw1, hx1⟩ := open_cells (len := len1) PFnExactFamilyOrder.k65 (fun f => (⟨f 0, f 1, f 2⟩)) 3 rfl (fun w f => by first | exact PFnExactFamilyOrder.k65_mk w _ | rfl) Try.underlying38 (by kernel_rfl) (el_struct Try.underlying65 (by kernel_rfl) (by kernel_rfl) rfl (by kernel_rfl)) h1
  subst hl1
  have y1 : l1.length * 24 ≤ 140737488351232 := sized_of hsz (j := 1) (t := 38) rfl rfl Try.underlying38 (by kernel_rfl) hx1
  have z1 : ∀ x ∈ l1, (Lit.int .i64 x.f0).wf = true ∧ (Lit.int .i64 x.f1).wf = true ∧ (Lit.int .i64 x.f2).wf = true := by
    intro x hx
    obtain ⟨f, rfl, hf⟩ := hw1 x hx
    exact ⟨hf 0 (by omega), hf 1 (by omega), hf 2 (by omega)⟩
  clear hA0 hval0 hsz0 hsz
  refine (PFnExactFamilyOrder.laws_FnExactFamilyOrder.walk Pure.FnExactFamilyOrder a0 a1 cap1 l1 W w0 y1 z1 hr1 hc1).mono fun e W' ⟨he, bel⟩ => ?_
  subst he
  exact ⟨_, rfl, _, _, _, [], _, [], hW', trodAll_mk1 (shut_bool Try.underlying4 _), (trodAll_cons_mk (shut_int Try.underlying2 w0) (trodAll_cons_mk (Below.trod laidOut (by kernel_rfl) (of_decide_eq_true (by kernel_rfl)) k1 bel lt1) trodAll_mk0)), rfl, bel.frame _, fun h => by cases h⟩
theorem over : Rows.fnExactFamilyOrderRow.holds Try.pinned (OpenSpec.ofChange Rows.fnExactFamilyOrderSpec) :=
  OpenClaim.holds_of_wide 4 Try.f4 rfl rfl rfl rfl rfl rfl rfl ⟨rfl, rfl, rfl, rfl, rfl⟩ rfl rfl rfl rfl rfl (by kernel_rfl) Try.func4 (by kernel_rfl)
    (of_decide_eq_true (by kernel_rfl)) (by unfold Func.isWrapper; first | (rw [if_pos (by decide +kernel)]; kernel_rfl) | (rw [if_neg (by decide +kernel)]; exact ⟨rfl, rfl⟩))
    (fun os started H enc _ => lifted os started H enc)
theorem proved : Rows.FnExactFamilyOrderSaid := over
#print axioms proved
end Go.Proofs.Ytcieonfpmchdkaa.fnExactFamilyOrder
namespace Go.Proofs.Ytcieonfpmchdkaa
/-- The row, under a short name, for the claim. -/
theorem fnExactFamilyOrder_holds : Rows.FnExactFamilyOrderSaid := fnExactFamilyOrder.proved
end Go.Proofs.Ytcieonfpmchdkaa
