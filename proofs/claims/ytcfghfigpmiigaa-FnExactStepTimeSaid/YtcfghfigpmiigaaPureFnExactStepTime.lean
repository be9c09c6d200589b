/- The pure statement of law FnExactStepTime: what the printed functions compute answers true at every input. No condition. -/
import Derived.Test.YtcfghfigpmiigaaPFnExactStepTimex1
set_option linter.unusedVariables false
set_option linter.unusedSimpArgs false
namespace Go.Proofs.Ytcfghfigpmiigaa.Pure
open Go.RowKit Go.Proofs.Ytcfghfigpmiigaa.PFnExactStepTime Go.Proofs.YtcfghfigpmiigaaW.PrintWords Go.Proofs.YtcfghfigpmiigaaW.PrintLast Go.Proofs.YtcfghfigpmiigaaW.PrintMore


/-! #### Numbers and rounds -/
theorem w64 {x : Int} (h1 : -9223372036854775808 ≤ x) (h2 : x ≤ 9223372036854775807) : wrap64 x = x := by
  unfold wrap64
  omega
theorem wf64 {x : Int} (h : (Lit.int .i64 x).wf = true) : -9223372036854775808 ≤ x ∧ x ≤ 9223372036854775807 := by
  simp only [Lit.wf, IntKind.min, IntKind.max, IntKind.signed, IntKind.bits, Bool.and_eq_true, decide_eq_true_eq, if_true] at h
  omega
theorem ev_of {α : Type} {g : Nat → Option α} {r : α} (h : ∀ k, g k = some r) : Ev g r := ⟨0, fun k _ => h k⟩
theorem ev_eq {α : Type} {g : Nat → Option α} {r r' : α} (h : Ev g r) (e : r = r') : Ev g r' := e ▸ h
/-- A loop over a list: what lies behind, what lies ahead. -/
theorem loop_list {α : Type} (l : List α) (Q : List α → List α → Prop) (h0 : Q l []) (hs : ∀ p x s, l = p ++ x :: s → Q (p ++ [x]) s → Q p (x :: s)) : Q [] l := by
  have h : ∀ s p, l = p ++ s → Q p s := by
    intro s
    induction s with
    | nil => intro p hp; rw [List.append_nil] at hp; rw [← hp]; exact h0
    | cons x s ih => intro p hp; exact hs p x s hp (ih (p ++ [x]) (by simp [hp]))
  exact h l [] rfl
theorem mid_lt {α : Type} {l p s : List α} {x : α} (h : l = p ++ x :: s) : (p.length : Int) < (l.length : Int) := by
  rw [h, List.length_append, List.length_cons]; omega
theorem mid_next {α : Type} {l p s : List α} {x : α} (h : l = p ++ x :: s) (hl : l.length ≤ 9223372036854775807) : wrap64 ((p.length : Int) + 1) = ((p ++ [x]).length : Int) := by
  have := mid_lt h
  rw [w64 (by omega) (by omega), List.length_append]; simp
theorem mid_get {α : Type} {l p s : List α} {x : α} (h : l = p ++ x :: s) (z : α) : l.getD (p.length : Int).toNat z = x := by
  rw [h]; simp
theorem get_mid {α : Type} (p s : List α) (x z : α) : (p ++ x :: s).getD (p.length : Int).toNat z = x := by simp
theorem nat_nn (n : Nat) : (0 : Int) ≤ (n : Int) := by omega
theorem nlt_self {α : Type} (l : List α) : ¬ ((l.length : Int) < (l.length : Int)) := by omega
theorem set_mid {α : Type} (p s : List α) (x y : α) : (p ++ x :: s).set ((p.length : Int).toNat) y = p ++ y :: s := by
  rw [Int.toNat_natCast, List.set_append_right _ _ (Nat.le_refl _)]; simp
theorem nil_or_snoc {α : Type} (p : List α) : p = [] ∨ ∃ q y, p = q ++ [y] := by
  rcases List.eq_nil_or_concat p with h | ⟨q, y, h⟩
  · exact .inl h
  · exact .inr ⟨q, y, by rw [h, List.concat_eq_append]⟩
def inR (a lo hi : Int) : Bool := decide (lo ≤ a) && decide (a ≤ hi)
theorem inR_iff {a lo hi : Int} : inR a lo hi = true ↔ lo ≤ a ∧ a ≤ hi := by simp [inR]
theorem l01In (a lo hi : Int) : spec_l01In.f a lo hi = some (inR a lo hi) := by
  unfold spec_l01In.f inR
  split
  · rename_i h; rw [decide_eq_true (show lo ≤ a from h), Bool.true_and]
  · rename_i h; rw [decide_eq_false (show ¬ lo ≤ a from h), Bool.false_and]
theorem inRange (a lo hi : Int) : impl_inRange.f a lo hi = some (inR a lo hi) := by
  unfold impl_inRange.f inR
  split
  · rename_i h; rw [decide_eq_true (show lo ≤ a from h), Bool.true_and]
  · rename_i h; rw [decide_eq_false (show ¬ lo ≤ a from h), Bool.false_and]
def stepB (a b c : Int) : Bool := inR a 0 10000 && (inR b 1 100000 && inR c 0 500)
theorem spec_IsStep (a b c : Int) : spec_IsStep.f a b c = some (stepB a b c) := by
  simp only [spec_IsStep.f, l01In, Option.bind_some, stepB]
  cases inR a 0 10000 <;> cases inR b 1 100000 <;> cases inR c 0 500 <;> rfl
theorem impl_IsStep (a b c : Int) : impl_IsStep.f a b c = some (stepB a b c) := by
  simp only [impl_IsStep.f, inRange, Option.bind_some, stepB]
  cases inR a 0 10000 <;> cases inR b 1 100000 <;> cases inR c 0 500 <;> rfl
def quo (a b : Int) : Int := wrap64 (Int.tdiv (wrap64 ((wrap64 (a + b)) - 1)) b)
theorem l01Ceil (a b : Int) (h : b ≠ 0) : spec_l01Ceil.f a b = some (quo a b) := by
  unfold spec_l01Ceil.f
  rw [if_neg h]
  rfl
theorem quotient (a b : Int) (h : b ≠ 0) : impl_quotient.f a b = some (quo a b) := by
  unfold impl_quotient.f
  rw [if_neg h]
  rfl
def minB (a b n : Int) : Int := wrap64 (a + quo (wrap64 (60 * n)) b)
theorem stepB_pos {a b c : Int} (h : stepB a b c = true) : b ≠ 0 := by
  simp only [stepB, Bool.and_eq_true, inR_iff] at h
  omega
theorem l19Time (a b c n : Int) (h : stepB a b c = true) : spec_l19Time.f a b c n = some (minB a b n) := by
  simp only [spec_l19Time.f, l01Ceil _ b (stepB_pos h), Option.bind_some]
  rfl
theorem minutesOf (a b c n : Int) (h : stepB a b c = true) : impl_minutesOf.f a b c n = some (minB a b n) := by
  simp only [impl_minutesOf.f, quotient _ b (stepB_pos h), Option.bind_some, Int.mul_comm n 60]
  rfl
def codeOf (b : Bool) (n : Int) : Int := if b = true then (if inR n 0 1000000 = true then 0 else 2) else 1
theorem l19Code (b : Bool) (n : Int) : spec_l19Code.f b n = some (codeOf b n) := by
  simp only [spec_l19Code.f, l01In, Option.bind_some, codeOf]
  cases b <;> cases inR n 0 1000000 <;> rfl
theorem codeOf_zero {b : Bool} {n : Int} (h : codeOf b n = 0) : b = true ∧ 0 ≤ n ∧ n ≤ 1000000 := by
  unfold codeOf at h
  cases b <;> cases h1 : inR n 0 1000000 <;> simp [h1] at h
  exact ⟨rfl, inR_iff.1 h1⟩
theorem FnExactStepTime : laws_FnExactStepTime.Pure := by
  intro a b c n _ _ _ _
  simp only [laws_FnExactStepTime.f, laws_toStep.f, spec_StepTime.f, impl_StepTime.f, impl_isRun.f, spec_IsStep, impl_IsStep, l19Code, codeOf, inRange, Option.bind_some]
  cases h0 : stepB a b c <;> cases h1 : inR n 0 1000000 <;> simp [l19Time a b c n, minutesOf a b c n, h0]

end Go.Proofs.Ytcfghfigpmiigaa.Pure
