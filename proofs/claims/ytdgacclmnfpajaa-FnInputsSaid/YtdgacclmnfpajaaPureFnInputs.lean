/- The pure statement of law FnInputs: what the printed functions compute answers true at every input. No condition. -/
import Derived.Test.YtdgacclmnfpajaaPFnInputsx4
set_option linter.unusedVariables false
set_option linter.unusedSimpArgs false
namespace Go.Proofs.Ytdgacclmnfpajaa.Pure
open Go.RowKit Go.Proofs.Ytdgacclmnfpajaa.PFnInputs Go.Proofs.YtdgacclmnfpajaaW.PrintWords Go.Proofs.YtdgacclmnfpajaaW.PrintLast Go.Proofs.YtdgacclmnfpajaaW.PrintMore


/-! #### Numbers and rounds -/
theorem w64 {x : Int} (h1 : -9223372036854775808 ≤ x) (h2 : x ≤ 9223372036854775807) : wrap64 x = x := by
  unfold wrap64
  omega
theorem wf64 {x : Int} (h : (Lit.int .i64 x).wf = true) : -9223372036854775808 ≤ x ∧ x ≤ 9223372036854775807 := by
  simp only [Lit.wf, IntKind.min, IntKind.max, IntKind.signed, IntKind.bits, Bool.and_eq_true, decide_eq_true_eq, if_true] at h
  omega
theorem ev_of {α : Type} {g : Nat → Option α} {r : α} (h : ∀ k, g k = some r) : Ev g r := ⟨0, fun k _ => h k⟩
theorem ev_eq {α : Type} {g : Nat → Option α} {r r' : α} (h : Ev g r) (e : r = r') : Ev g r' := e ▸ h
/-- A loop over a list: what lies behind, what lies ahead. -/
theorem loop_list {α : Type} (l : List α) (Q : List α → List α → Prop) (h0 : Q l []) (hs : ∀ p x s, l = p ++ x :: s → Q (p ++ [x]) s → Q p (x :: s)) : Q [] l := by
  have h : ∀ s p, l = p ++ s → Q p s := by
    intro s
    induction s with
    | nil => intro p hp; rw [List.append_nil] at hp; rw [← hp]; exact h0
    | cons x s ih => intro p hp; exact hs p x s hp (ih (p ++ [x]) (by simp [hp]))
  exact h l [] rfl
theorem mid_lt {α : Type} {l p s : List α} {x : α} (h : l = p ++ x :: s) : (p.length : Int) < (l.length : Int) := by
  rw [h, List.length_append, List.length_cons]; omega
theorem mid_next {α : Type} {l p s : List α} {x : α} (h : l = p ++ x :: s) (hl : l.length ≤ 9223372036854775807) : wrap64 ((p.length : Int) + 1) = ((p ++ [x]).length : Int) := by
  have := mid_lt h
  rw [w64 (by omega) (by omega), List.length_append]; simp
theorem mid_get {α : Type} {l p s : List α} {x : α} (h : l = p ++ x :: s) (z : α) : l.getD (p.length : Int).toNat z = x := by
  rw [h]; simp
theorem get_mid {α : Type} (p s : List α) (x z : α) : (p ++ x :: s).getD (p.length : Int).toNat z = x := by simp
theorem nat_nn (n : Nat) : (0 : Int) ≤ (n : Int) := by omega
theorem nlt_self {α : Type} (l : List α) : ¬ ((l.length : Int) < (l.length : Int)) := by omega
theorem set_mid {α : Type} (p s : List α) (x y : α) : (p ++ x :: s).set ((p.length : Int).toNat) y = p ++ y :: s := by
  rw [Int.toNat_natCast, List.set_append_right _ _ (Nat.le_refl _)]; simp
theorem nil_or_snoc {α : Type} (p : List α) : p = [] ∨ ∃ q y, p = q ++ [y] := by
  rcases List.eq_nil_or_concat p with h | ⟨q, y, h⟩
  · exact .inl h
  · exact .inr ⟨q, y, by rw [h, List.concat_eq_append]⟩
theorem loop_all {α : Type} (l : List α) (Q : List α → List α → Prop) (h0 : Q l []) (hs : ∀ p x s, l = p ++ x :: s → Q (p ++ [x]) s → Q p (x :: s)) : ∀ s p, l = p ++ s → Q p s := by
  intro s
  induction s with
  | nil => intro p hp; rw [List.append_nil] at hp; rw [← hp]; exact h0
  | cons x s ih => intro p hp; exact hs p x s hp (ih (p ++ [x]) (by simp [hp]))
def inR (a lo hi : Int) : Bool := decide (lo ≤ a) && decide (a ≤ hi)
theorem inR_iff {a lo hi : Int} : inR a lo hi = true ↔ lo ≤ a ∧ a ≤ hi := by simp [inR]
theorem l01In (a lo hi : Int) : spec_l01In.f a lo hi = some (inR a lo hi) := by
  unfold spec_l01In.f inR
  split
  · rename_i h; rw [decide_eq_true (show lo ≤ a from h), Bool.true_and]
  · rename_i h; rw [decide_eq_false (show ¬ lo ≤ a from h), Bool.false_and]
theorem inRange (a lo hi : Int) : impl_inRange.f a lo hi = some (inR a lo hi) := by
  unfold impl_inRange.f inR
  split
  · rename_i h; rw [decide_eq_true (show lo ≤ a from h), Bool.true_and]
  · rename_i h; rw [decide_eq_false (show ¬ lo ≤ a from h), Bool.false_and]
def stepB (a b c : Int) : Bool := inR a 0 10000 && (inR b 1 100000 && inR c 0 500)
theorem spec_IsStep (a b c : Int) : spec_IsStep.f a b c = some (stepB a b c) := by
  simp only [spec_IsStep.f, l01In, Option.bind_some, stepB]
  cases inR a 0 10000 <;> cases inR b 1 100000 <;> cases inR c 0 500 <;> rfl
theorem impl_IsStep (a b c : Int) : impl_IsStep.f a b c = some (stepB a b c) := by
  simp only [impl_IsStep.f, inRange, Option.bind_some, stepB]
  cases inR a 0 10000 <;> cases inR b 1 100000 <;> cases inR c 0 500 <;> rfl
def quo (a b : Int) : Int := wrap64 (Int.tdiv (wrap64 ((wrap64 (a + b)) - 1)) b)
theorem l01Ceil (a b : Int) (h : b ≠ 0) : spec_l01Ceil.f a b = some (quo a b) := by
  unfold spec_l01Ceil.f
  rw [if_neg h]
  rfl
theorem quotient (a b : Int) (h : b ≠ 0) : impl_quotient.f a b = some (quo a b) := by
  unfold impl_quotient.f
  rw [if_neg h]
  rfl
def minB (a b n : Int) : Int := wrap64 (a + quo (wrap64 (60 * n)) b)
theorem stepB_pos {a b c : Int} (h : stepB a b c = true) : b ≠ 0 := by
  simp only [stepB, Bool.and_eq_true, inR_iff] at h
  omega
def codeOf (b : Bool) (n : Int) : Int := if b = true then (if inR n 0 1000000 = true then 0 else 2) else 1
theorem l19Code (b : Bool) (n : Int) : spec_l19Code.f b n = some (codeOf b n) := by
  simp only [spec_l19Code.f, l01In, Option.bind_some, codeOf]
  cases b <;> cases inR n 0 1000000 <;> rfl
theorem codeOf_zero {b : Bool} {n : Int} (h : codeOf b n = 0) : b = true ∧ 0 ≤ n ∧ n ≤ 1000000 := by
  unfold codeOf at h
  cases b <;> cases h1 : inR n 0 1000000 <;> simp [h1] at h
  exact ⟨rfl, inR_iff.1 h1⟩
def okStep (x : S91) : Bool := stepB x.f0 x.f1 x.f2
def routeB (l : List S91) : Bool := l.all okStep && (decide (1 ≤ l.length) && decide (l.length ≤ 10))
theorem spec_IsRoute (l : List S91) (h : l.length ≤ 1048576) : Ev (fun k => spec_IsRoute.f k l) (routeB l) := by
  refine loop_list l (fun p s => Ev (fun k => spec_IsRoute.l0 k l (p.length : Int)) (s.all okStep && (decide (1 ≤ l.length) && decide (l.length ≤ 10)))) ?_ ?_
  · refine Ev.step (fun k => by rw [spec_IsRoute.l0]) ?_
    simp only [if_neg (nlt_self l), List.all_nil, Bool.true_and]
    by_cases h1 : (l.length : Int) ≥ 1
    · simp only [if_pos h1]
      exact ev_eq (Ev.now _) (by rw [decide_eq_true (show 1 ≤ l.length by omega), Bool.true_and]; exact decide_eq_decide.2 (by omega))
    · simp only [if_neg h1]
      exact ev_eq (Ev.now _) (by rw [decide_eq_false (show ¬ 1 ≤ l.length by omega), Bool.false_and])
  · intro p x s he ih
    refine Ev.step (fun k => by rw [spec_IsRoute.l0]) ?_
    simp only [if_pos (mid_lt he), if_pos (nat_nn p.length), mid_next he (by omega), rd_T91, mid_get he, spec_IsStep, Option.bind_some, List.all_cons]
    cases h0 : stepB x.f0 x.f1 x.f2 <;> simp [okStep, h0] <;> first | exact Ev.now _ | simpa [mid_next he (by omega)] using ih
theorem impl_IsRoute_1_ok (x : S91) : impl_IsRoute_1.f x.f0 x.f1 x.f2 = some (!(okStep x)) := by
  simp only [impl_IsRoute_1.f, impl_IsStep, Option.bind_some, okStep]
theorem contains_impl_IsRoute_1 (l : List S91) (h : l.length ≤ 1048576) : Ev (fun k => slices_ContainsFunc_at_impl_IsRoute_1.f k l) (!(l.all okStep)) := by
  have H := loop_list l (fun p s => ∃ r, Ev (fun k => slices_IndexFunc_at_impl_IsRoute_1.l0 k l (l.length : Int) (p.length : Int)) r ∧ decide (r ≥ 0) = !(s.all okStep)) ?_ ?_
  · obtain ⟨r, hr, e⟩ := H
    rw [← e]
    exact Ev.bind hr (Ev.now _)
  · refine ⟨-1, Ev.step (fun k => by rw [slices_IndexFunc_at_impl_IsRoute_1.l0]) ?_, by simp⟩
    simp only [if_neg (nlt_self l)]
    exact Ev.now _
  · rintro p x s he ⟨r, ih, e⟩
    by_cases hx : okStep x = true
    · refine ⟨r, Ev.step (fun k => by rw [slices_IndexFunc_at_impl_IsRoute_1.l0]) ?_, by rw [e]; simp [hx]⟩
      simp only [if_pos (mid_lt he), if_pos (nat_nn p.length), rd_T91, mid_get he, impl_IsRoute_1_ok, hx, Option.bind_some, mid_next he (by omega)]
      exact ih
    · refine ⟨(p.length : Int), Ev.step (fun k => by rw [slices_IndexFunc_at_impl_IsRoute_1.l0]) ?_, by simp [hx]⟩
      simp only [if_pos (mid_lt he), if_pos (nat_nn p.length), rd_T91, mid_get he, impl_IsRoute_1_ok, Bool.eq_false_iff.2 hx, Option.bind_some]
      exact Ev.now _
theorem impl_IsRoute (l : List S91) (h : l.length ≤ 1048576) : Ev (fun k => impl_IsRoute.f k l) (routeB l) := by
  simp only [impl_IsRoute.f, impl_length_Step.f, inRange, Option.bind_some]
  cases hl : inR (l.length : Int) 1 10
  · simp only [Bool.false_eq_true, if_false]
    have e : (decide (1 ≤ l.length) && decide (l.length ≤ 10)) = false := by
      rw [Bool.eq_false_iff] at hl ⊢
      intro h; apply hl; rw [inR_iff]; simp at h; omega
    exact ev_eq (Ev.now _) (by rw [routeB, e, Bool.and_false])
  · simp only [if_true]
    rw [inR_iff] at hl
    exact ev_eq (Ev.bind (contains_impl_IsRoute_1 l h) (Ev.now _)) (by simp [routeB, show l.length ≤ 10 by omega, show 1 ≤ l.length by omega])
theorem okStep_of {l : List S91} {n : Int} (h : codeOf (routeB l) n = 0) {x : S91} (hx : x ∈ l) : stepB x.f0 x.f1 x.f2 = true := by
  have := (codeOf_zero h).1
  simp only [routeB, Bool.and_eq_true, List.all_eq_true] at this
  exact this.1 x hx
theorem route_len {l : List S91} {n : Int} (h : codeOf (routeB l) n = 0) : 1 ≤ l.length ∧ l.length ≤ 10 := by
  have := (codeOf_zero h).1
  simp only [routeB, Bool.and_eq_true, decide_eq_true_eq] at this
  exact this.2

theorem checkRoute (l : List S91) (n : Int) (h : l.length ≤ 1048576) : Ev (fun k => impl_checkRoute.f k l n) (codeOf (routeB l) n) := by
  simp only [impl_checkRoute.f, impl_isRun.f, inRange, Option.bind_some]
  refine Ev.bind (impl_IsRoute l h) ?_
  cases routeB l <;> cases hn : inR n 0 1000000 <;> simp [codeOf, hn] <;> exact Ev.now _
/-- What stands behind the test of a route, on both sides. -/
theorem spec_route {α : Type} (l : List S91) (n : Int) (h : l.length ≤ 1048576) (g : Nat → Option α) (e : Int → α) (r : α) (h0 : codeOf (routeB l) n = 0 → Ev g r) (h1 : codeOf (routeB l) n ≠ 0 → r = e (codeOf (routeB l) n)) :
    Ev (fun k => (spec_IsRoute.f k l).bind fun t => (spec_l19Code.f t n).bind fun c => if c = 0 then g k else some (e c)) r := by
  refine Ev.bind (spec_IsRoute l h) ?_
  simp only [l19Code, Option.bind_some]
  by_cases hc : codeOf (routeB l) n = 0
  · simp only [if_pos hc]
    exact h0 hc
  · simp only [if_neg hc]
    exact ev_eq (Ev.now _) (h1 hc).symm
theorem impl_route {α : Type} (l : List S91) (n : Int) (h : l.length ≤ 1048576) (g : Nat → Option α) (e : Int → α) (r : α) (h0 : codeOf (routeB l) n = 0 → Ev g r) (h1 : codeOf (routeB l) n ≠ 0 → r = e (codeOf (routeB l) n)) :
    Ev (fun k => (impl_checkRoute.f k l n).bind fun c => if c = 0 then g k else some (e c)) r := by
  refine Ev.bind (checkRoute l n h) ?_
  by_cases hc : codeOf (routeB l) n = 0
  · simp only [if_pos hc]
    exact h0 hc
  · simp only [if_neg hc]
    exact ev_eq (Ev.now _) (h1 hc).symm
theorem both_route {α : Type} (l : List S91) (n : Int) (h : l.length ≤ 1048576) (g g' : Nat → Option α) (e : Int → α) (hg : codeOf (routeB l) n = 0 → ∃ r, Ev g r ∧ Ev g' r) :
    ∃ r, Ev (fun k => (spec_IsRoute.f k l).bind fun t => (spec_l19Code.f t n).bind fun c => if c = 0 then g k else some (e c)) r ∧ Ev (fun k => (impl_checkRoute.f k l n).bind fun c => if c = 0 then g' k else some (e c)) r := by
  by_cases hc : codeOf (routeB l) n = 0
  · obtain ⟨r, h1, h2⟩ := hg hc
    exact ⟨r, spec_route l n h g e r (fun _ => h1) (fun h => absurd hc h), impl_route l n h g' e r (fun _ => h2) (fun h => absurd hc h)⟩
  · exact ⟨_, spec_route l n h g e _ (fun h => absurd h hc) (fun _ => rfl), impl_route l n h g' e _ (fun h => absurd h hc) (fun _ => rfl)⟩
def passStep (x : S91) (n : Int) : Int := wrap64 (n - quo (wrap64 (n * x.f2)) 1000)
def passF : Int → List S91 → List Int
  | _, [] => []
  | n, x :: s => passStep x n :: passF (passStep x n) s
theorem passF_length (l : List S91) : ∀ n, (passF n l).length = l.length := by
  induction l with
  | nil => intro n; rfl
  | cons x l ih => intro n; simp [passF, ih]
def passedB (l : List S91) (n : Int) : List Int := n :: passF n l
theorem passedB_length (l : List S91) (n : Int) : (passedB l n).length = l.length + 1 := by simp [passedB, passF_length]
theorem spec_passed (l : List S91) (n : Int) (h : l.length ≤ 1048576) : Ev (fun k => spec_l22Passed.f k l n) (passedB l n) := by
  refine loop_list l (fun p s => ∀ (n : Int) (acc : List Int), acc.length = p.length + 1 → Ev (fun k => spec_l22Passed.l0 k l n acc (p.length : Int)) (acc ++ passF n s)) ?_ ?_ n [n] rfl
  · intro n acc ha
    refine Ev.step (fun k => by rw [spec_l22Passed.l0]) ?_
    simp only [if_neg (nlt_self l), passF, List.append_nil]
    exact Ev.now _
  · intro p x s he ih n acc ha
    have hp := mid_lt he
    have := ih (passStep x n) (acc ++ [passStep x n]) (by simp [ha])
    refine Ev.step (fun k => by rw [spec_l22Passed.l0]) ?_
    simp only [if_pos hp, if_pos (nat_nn p.length), rd_T91, mid_get he, spec_l22Spoil.f, l01Ceil _ 1000 (by decide), Option.bind_some, if_pos (show acc.length < 17592186044416 by omega), mid_next he (by omega)]
    simpa [passF, passStep] using this
theorem impl_passed (l : List S91) (n : Int) (h : l.length ≤ 1048576) : Ev (fun k => impl_passed.f k l n) (passedB l n) := by
  refine loop_list l (fun p s => ∀ (n : Int) (acc : List Int), acc.length = p.length + 1 → Ev (fun k => impl_passed.l0 k n acc l (l.length : Int) (p.length : Int)) (acc ++ passF n s)) ?_ ?_ n [n] rfl
  · intro n acc ha
    refine Ev.step (fun k => by rw [impl_passed.l0]) ?_
    simp only [if_neg (nlt_self l), passF, List.append_nil]
    exact Ev.now _
  · intro p x s he ih n acc ha
    have hp := mid_lt he
    have := ih (passStep x n) (acc ++ [passStep x n]) (by simp [ha])
    refine Ev.step (fun k => by rw [impl_passed.l0]) ?_
    simp only [if_pos hp, if_pos (nat_nn p.length), rd_T91, mid_get he, quotient _ 1000 (by decide), Option.bind_some, if_pos (show acc.length < 17592186044416 by omega), mid_next he (by omega)]
    simpa [passF, passStep] using this
def outB (l : List S91) (n : Int) : Int := rd (passedB l n) (l.length : Int)
theorem spec_output (l : List S91) (n : Int) (h : l.length ≤ 1048576) : Ev (fun k => spec_l22Output.f k l n) (outB l n) := by
  simp only [spec_l22Output.f]
  refine Ev.bind (spec_passed l n h) ?_
  simp only [if_pos (nat_nn l.length), if_pos (show (l.length : Int) < ((passedB l n).length : Int) by rw [passedB_length]; omega)]
  exact Ev.now _
theorem impl_output (l : List S91) (n : Int) (h : l.length ≤ 1048576) : Ev (fun k => impl_output.f k l n) (outB l n) := by
  simp only [impl_output.f]
  refine Ev.bind (impl_passed l n h) ?_
  simp only [if_pos (nat_nn l.length), if_pos (show (l.length : Int) < ((passedB l n).length : Int) by rw [passedB_length]; omega)]
  exact Ev.now _
theorem impl_OutputOf (l : List S91) (n : Int) (h : l.length ≤ 1048576) : Ev (fun k => impl_OutputOf.f k l n) (if codeOf (routeB l) n = 0 then (outB l n, 0) else (0, codeOf (routeB l) n)) := by
  simp only [impl_OutputOf.f]
  exact impl_route l n h _ (fun c => (0, c)) _ (fun hc => by rw [if_pos hc]; exact Ev.bind (impl_output l n h) (Ev.now _)) (fun hc => by rw [if_neg hc])
/-- What the search finds: enough, and one less is not. -/
def Least (l : List S91) (n m : Int) : Prop := 0 ≤ m ∧ m ≤ 1000000 ∧ outB l m ≥ n ∧ (m = 0 ∨ outB l (m - 1) < n)
theorem search_least (l : List S91) (n : Int) (h : l.length ≤ 1048576) : ∀ (d : Nat) (low high : Int), high - low ≤ d → 0 ≤ low → low ≤ high → high ≤ 1000000 → outB l high ≥ n → (low = 0 ∨ outB l (low - 1) < n) → ∃ m, Least l n m ∧ Ev (fun k => spec_l22Input.l0 k l n low high) (m, 0) ∧ Ev (fun k => impl_InputFor.l0 k l n low high) (m, 0) := by
  have fin : ∀ low high : Int, ¬ low < high → 0 ≤ low → low ≤ high → high ≤ 1000000 → outB l high ≥ n → (low = 0 ∨ outB l (low - 1) < n) → ∃ m, Least l n m ∧ Ev (fun k => spec_l22Input.l0 k l n low high) (m, 0) ∧ Ev (fun k => impl_InputFor.l0 k l n low high) (m, 0) := by
    intro low high hlt h0 h1 h2 h3 h4
    obtain rfl : low = high := by omega
    refine ⟨low, ⟨h0, h2, h3, h4⟩, Ev.step (fun k => by rw [spec_l22Input.l0]) ?_, Ev.step (fun k => by rw [impl_InputFor.l0]) ?_⟩ <;> simp only [if_neg hlt] <;> exact Ev.now _
  intro d
  induction d with
  | zero =>
    intro low high hd h0 h1 h2 h3 h4
    exact fin low high (by omega) h0 h1 h2 h3 h4
  | succ d ih =>
    intro low high hd h0 h1 h2 h3 h4
    by_cases hlt : low < high
    · have e1 : wrap64 (low + high) = low + high := w64 (by omega) (by omega)
      have e2 : Int.tdiv (low + high) 2 = (low + high) / 2 := Int.tdiv_eq_ediv_of_nonneg (by omega)
      have e3 : wrap64 ((low + high) / 2) = (low + high) / 2 := w64 (by omega) (by omega)
      have e4 : wrap64 ((low + high) / 2 + 1) = (low + high) / 2 + 1 := w64 (by omega) (by omega)
      by_cases hg : outB l ((low + high) / 2) ≥ n
      · obtain ⟨m, hm, g1, g2⟩ := ih low ((low + high) / 2) (by omega) (by omega) (by omega) (by omega) hg h4
        refine ⟨m, hm, Ev.step (fun k => by rw [spec_l22Input.l0]) ?_, Ev.step (fun k => by rw [impl_InputFor.l0]) ?_⟩ <;> simp only [if_pos hlt, e1, e2, e3, e4]
        · refine Ev.bind (spec_output l _ h) ?_
          simp only [if_pos hg]
          exact g1
        · refine Ev.bind (impl_output l _ h) ?_
          simp only [if_pos hg]
          exact g2
      · obtain ⟨m, hm, g1, g2⟩ := ih ((low + high) / 2 + 1) high (by omega) (by omega) (by omega) (by omega) h3 (.inr (by rw [show (low + high) / 2 + 1 - 1 = (low + high) / 2 by omega]; omega))
        refine ⟨m, hm, Ev.step (fun k => by rw [spec_l22Input.l0]) ?_, Ev.step (fun k => by rw [impl_InputFor.l0]) ?_⟩ <;> simp only [if_pos hlt, e1, e2, e3, e4]
        · refine Ev.bind (spec_output l _ h) ?_
          simp only [if_neg hg]
          exact g1
        · refine Ev.bind (impl_output l _ h) ?_
          simp only [if_neg hg]
          exact g2
    · exact fin low high hlt h0 h1 h2 h3 h4
/-- What both programs tell of the least input. -/
def InTold (l : List S91) (n : Int) (r : Int × Int) : Prop :=
  (codeOf (routeB l) n ≠ 0 ∧ r = (0, codeOf (routeB l) n)) ∨ (codeOf (routeB l) n = 0 ∧ ((outB l 1000000 < n ∧ r = (0, 3)) ∨ (∃ m, Least l n m ∧ r = (m, 0))))
theorem input_told (l : List S91) (n : Int) (h : l.length ≤ 1048576) : ∃ r, InTold l n r ∧ Ev (fun k => spec_InputFor.f k l n) r ∧ Ev (fun k => impl_InputFor.f k l n) r := by
  simp only [spec_InputFor.f, impl_InputFor.f, spec_l22Input.f]
  by_cases hc : codeOf (routeB l) n = 0
  · by_cases hg : outB l 1000000 < n
    · refine ⟨(0, 3), .inr ⟨hc, .inl ⟨hg, rfl⟩⟩, spec_route l n h _ (fun c => (0, c)) _ (fun _ => Ev.bind (a := (0, 3)) (Ev.bind (spec_output l _ h) ?_) (Ev.now _)) (fun h => absurd hc h), impl_route l n h _ (fun c => (0, c)) _ (fun _ => Ev.bind (impl_output l _ h) ?_) (fun h => absurd hc h)⟩ <;> simp only [if_pos hg] <;> exact Ev.now _
    · obtain ⟨m, hm, h1, h2⟩ := search_least l n h 1000000 0 1000000 (by omega) (by omega) (by omega) (by omega) (by omega) (.inl rfl)
      refine ⟨(m, 0), .inr ⟨hc, .inr ⟨m, hm, rfl⟩⟩, spec_route l n h _ (fun c => (0, c)) _ (fun _ => Ev.bind (a := (m, 0)) (Ev.bind (spec_output l _ h) ?_) (Ev.now _)) (fun h => absurd hc h), impl_route l n h _ (fun c => (0, c)) _ (fun _ => Ev.bind (impl_output l _ h) ?_) (fun h => absurd hc h)⟩ <;> simp only [if_neg hg]
      · exact h1
      · exact h2
  · exact ⟨(0, codeOf (routeB l) n), .inl ⟨hc, rfl⟩, spec_route l n h _ (fun c => (0, c)) _ (fun h => absurd h hc) (fun _ => rfl), impl_route l n h _ (fun c => (0, c)) _ (fun h => absurd h hc) (fun _ => rfl)⟩
theorem overs_told (l : List S91) (n : Int) (h : l.length ≤ 1048576) {r : Int × Int} (h1 : Ev (fun k => spec_InputFor.f k l n) r) (h2 : Ev (fun k => impl_InputFor.f k l n) r) :
    Ev (fun k => spec_OversFor.f k l n) (if r.2 = 0 then (wrap64 (outB l r.1 - n), 0) else (0, r.2)) ∧ Ev (fun k => impl_OversFor.f k l n) (if r.2 = 0 then (wrap64 (outB l r.1 - n), 0) else (0, r.2)) := by
  simp only [spec_OversFor.f, impl_OversFor.f]
  by_cases hr : r.2 = 0
  · refine ⟨Ev.bind h1 ?_, Ev.bind h2 ?_⟩ <;> simp only [if_pos hr]
    · exact Ev.bind (spec_output l _ h) (Ev.now _)
    · exact Ev.bind (impl_output l _ h) (Ev.now _)
  · refine ⟨Ev.bind h1 ?_, Ev.bind h2 ?_⟩ <;> simp only [if_neg hr] <;> exact Ev.now _
/-- A source that stands somewhere in its code. -/
def Src (c : List Int) (a s : Int) : Prop := (∀ x ∈ c, 0 ≤ x ∧ x ≤ 255) ∧ c.length ≤ 4096 ∧ 0 ≤ a ∧ a ≤ (c.length : Int) ∧ 0 ≤ s ∧ s < 2147483647
theorem rd_byte {c : List Int} (h : ∀ x ∈ c, 0 ≤ x ∧ x ≤ 255) (i : Int) : 0 ≤ rd c i ∧ rd c i ≤ 255 := by
  unfold rd
  rw [List.getD_eq_getElem?_getD]
  cases e : c[i.toNat]? with
  | none => simp
  | some v => exact h v (List.mem_of_getElem? e)
theorem tmod_range {x n : Int} (hx : 0 ≤ x) (hn : 1 < n) : 0 ≤ Int.tmod x n ∧ Int.tmod x n < n := by
  rw [Int.tmod_eq_emod_of_nonneg hx]
  exact ⟨Int.emod_nonneg _ (by omega), Int.emod_lt_of_pos _ (by omega)⟩
theorem seed_step {s : Int} (h0 : 0 ≤ s) (h1 : s < 2147483647) : 0 ≤ Int.tmod (wrap64 ((wrap64 (s * 48271)) + 61)) 2147483647 ∧ Int.tmod (wrap64 ((wrap64 (s * 48271)) + 61)) 2147483647 < 2147483647 := by
  rw [w64 (x := s * 48271) (by omega) (by omega), w64 (by omega) (by omega)]
  exact tmod_range (by omega) (by omega)
theorem draw_next {c : List Int} {a s : Int} (h : Src c a s) (n : Int) : ∃ v a' s', spec_l01Next.f c a s n = some (v, a', s') ∧ Src c a' s' ∧ (n ≤ 1 → v = 0) ∧ (1 < n → 0 ≤ v ∧ v < n) := by
  obtain ⟨hb, hl, ha, ha1, hs, hs1⟩ := h
  by_cases hn : n ≤ 1
  · exact ⟨0, a, s, by simp only [spec_l01Next.f, if_pos hn], ⟨hb, hl, ha, ha1, hs, hs1⟩, fun _ => rfl, fun h => by omega⟩
  · have hn0 : ¬ n = 0 := by omega
    obtain ⟨k0, k1⟩ := seed_step hs hs1
    generalize hk : Int.tmod (wrap64 ((wrap64 (s * 48271)) + 61)) 2147483647 = t at k0 k1
    have hx : Int.tdiv t 31 = t / 31 := Int.tdiv_eq_ediv_of_nonneg k0
    have hx1 : wrap64 (t / 31) = t / 31 := w64 (by omega) (by omega)
    by_cases hlt : a < (c.length : Int)
    · have e1 : wrap64 (a + 1) = a + 1 := w64 (by omega) (by omega)
      have e2 : wrap64 (a + 1 - 1) = a := by rw [show a + 1 - 1 = a by omega]; exact w64 (by omega) (by omega)
      obtain ⟨b0, b1⟩ := rd_byte hb a
      have e3 : wrap64 (rd c a) = rd c a := w64 (by omega) (by omega)
      have e4 : wrap64 (t / 31 + rd c a) = t / 31 + rd c a := w64 (by omega) (by omega)
      have hS : Src c (a + 1) t := ⟨hb, hl, by omega, by omega, k0, k1⟩
      by_cases h256 : n ≤ 256
      · by_cases he : Int.tmod (a + 1) 2 = 0
        · refine ⟨Int.tmod (rd c a) n, a + 1, t, ?_, hS, fun h => by omega, fun h => tmod_range b0 h⟩
          simp only [spec_l01Next.f, if_neg hn, if_pos hlt, if_pos ha, if_pos h256, e1, e2, e3, hk, if_pos he, if_neg hn0]
        · refine ⟨Int.tmod (t / 31 + rd c a) n, a + 1, t, ?_, hS, fun h => by omega, fun h => tmod_range (by omega) h⟩
          simp only [spec_l01Next.f, if_neg hn, if_pos hlt, if_pos ha, if_pos h256, e1, e2, e3, e4, hk, hx, hx1, if_neg he, if_neg hn0]
      · refine ⟨Int.tmod (t / 31 + rd c a) n, a + 1, t, ?_, hS, fun h => by omega, fun h => tmod_range (by omega) h⟩
        simp only [spec_l01Next.f, if_neg hn, if_pos hlt, if_pos ha, if_neg h256, e1, e3, e4, hk, hx, hx1, if_neg hn0]
    · refine ⟨Int.tmod (t / 31) n, a, t, ?_, ⟨hb, hl, ha, ha1, k0, k1⟩, fun h => by omega, fun h => tmod_range (by omega) h⟩
      simp only [spec_l01Next.f, if_neg hn, if_neg hlt, hk, hx, hx1, if_neg hn0]
theorem draw_pick {c : List Int} {a s : Int} (h : Src c a s) (l : List Int) (h0 : 0 < l.length) (h1 : l.length ≤ 1000) : ∃ v a' s', spec_l01Pick.f c a s l = some (v, a', s') ∧ Src c a' s' ∧ v ∈ l := by
  obtain ⟨v, a', s', e, hS, hv0, hv1⟩ := draw_next h (l.length : Int)
  have hv : 0 ≤ v ∧ v < (l.length : Int) := by
    by_cases hn : (l.length : Int) ≤ 1
    · have := hv0 hn; omega
    · exact hv1 (by omega)
  refine ⟨rd l v, a', s', by simp only [spec_l01Pick.f, e, Option.bind_some, if_pos hv.1, if_pos hv.2], hS, ?_⟩
  have : v.toNat < l.length := by omega
  unfold rd
  rw [List.getD_eq_getElem?_getD, List.getElem?_eq_getElem this]
  exact List.getElem_mem this
theorem draw_from (c : List Int) (hb : ∀ x ∈ c, (Lit.int .u8 x).wf = true) (hl : c.length ≤ 4096) : ∃ s, Ev (fun k => spec_l01From.f k c) (c, 0, s) ∧ Src c 0 s := by
  have hb' : ∀ x ∈ c, 0 ≤ x ∧ x ≤ 255 := by
    intro x hx
    have := hb x hx
    simp only [Lit.wf, IntKind.min, IntKind.max, IntKind.signed, IntKind.bits, Bool.and_eq_true, decide_eq_true_eq] at this
    simp at this
    omega
  have H := loop_list c (fun p t => ∀ s, 0 ≤ s → s < 2147483647 → ∃ s', Ev (fun k => spec_l01From.l0 k c (p.length : Int) c 0 s) (c, 0, s') ∧ 0 ≤ s' ∧ s' < 2147483647) ?_ ?_ 88007 (by omega) (by omega)
  · obtain ⟨s', h, h0, h1⟩ := H
    exact ⟨s', h, hb', hl, by omega, by omega, h0, h1⟩
  · intro s h0 h1
    refine ⟨s, Ev.step (fun k => by rw [spec_l01From.l0]) ?_, h0, h1⟩
    simp only [if_neg (nlt_self c)]
    exact Ev.now _
  · intro p x t he ih s h0 h1
    by_cases h64 : (p.length : Int) < 64
    · have hx : rd c (p.length : Int) = x := mid_get he 0
      obtain ⟨b0, b1⟩ := hb' x (by rw [he]; simp)
      have e : wrap64 (wrap64 (s * 71) + wrap64 x) = s * 71 + x := by rw [w64 (x := s * 71) (by omega) (by omega), w64 (x := x) (by omega) (by omega), w64 (by omega) (by omega)]
      obtain ⟨k0, k1⟩ := tmod_range (x := s * 71 + x) (n := 2147483647) (by omega) (by omega)
      obtain ⟨s', h, g0, g1⟩ := ih (Int.tmod (s * 71 + x) 2147483647) k0 k1
      refine ⟨s', Ev.step (fun k => by rw [spec_l01From.l0]) ?_, g0, g1⟩
      simp only [if_pos (mid_lt he), if_pos h64, if_pos (nat_nn p.length), hx, e, mid_next he (by omega)]
      exact h
    · refine ⟨s, Ev.step (fun k => by rw [spec_l01From.l0]) ?_, h0, h1⟩
      simp only [if_pos (mid_lt he), if_neg h64]
      exact Ev.now _
theorem draw_step {c : List Int} {a s : Int} (h : Src c a s) : ∃ x y z a' s', spec_l19DrawStep.f c a s = some (x, y, z, a', s') ∧ Src c a' s' := by
  obtain ⟨v1, a1, s1, e1, h1, _⟩ := draw_next h 90
  obtain ⟨v2, a2, s2, e2, h2, _⟩ := draw_pick h1 [60, 5000] (by decide) (by decide)
  obtain ⟨v3, a3, s3, e3, h3, _⟩ := draw_next h2 v2
  obtain ⟨v4, a4, s4, e4, h4, _⟩ := draw_next h3 60
  obtain ⟨v5, a5, s5, e5, h5, _⟩ := draw_next h4 60
  simp only [spec_l19DrawStep.f, e1, e2, e3, e4, e5, Option.bind_some]
  by_cases g0 : v5 = 0
  · obtain ⟨v6, a6, s6, e6, h6, _⟩ := draw_pick h5 [-1, 10000, 10001] (by decide) (by decide)
    simp only [if_pos g0, e6, Option.bind_some]
    exact ⟨_, _, _, _, _, rfl, h6⟩
  · by_cases g1 : v5 = 1
    · obtain ⟨v6, a6, s6, e6, h6, _⟩ := draw_pick h5 [0, 1, 100000, 100001] (by decide) (by decide)
      simp only [if_neg g0, if_pos g1, e6, Option.bind_some]
      exact ⟨_, _, _, _, _, rfl, h6⟩
    · by_cases g2 : v5 = 2
      · obtain ⟨v6, a6, s6, e6, h6, _⟩ := draw_pick h5 [-1, 0, 500, 501] (by decide) (by decide)
        simp only [if_neg g0, if_neg g1, if_pos g2, e6, Option.bind_some]
        exact ⟨_, _, _, _, _, rfl, h6⟩
      · simp only [if_neg g0, if_neg g1, if_neg g2]
        exact ⟨_, _, _, _, _, rfl, h5⟩
theorem draw_route_l1 {c : List Int} : ∀ (d : Nat) (l : List S91) (a s : Int), l.length + d = 11 → Src c a s → ∃ r a' s', Ev (fun k => spec_l19DrawRoute.l1 k l c a s) (r, a', s') ∧ Src c a' s' ∧ r.length ≤ 11 := by
  intro d
  induction d with
  | zero =>
    intro l a s hl h
    obtain ⟨v1, a1, s1, e1, h1, _, hv⟩ := draw_next h 2
    obtain ⟨v0, v1'⟩ := hv (by omega)
    refine ⟨l.take (10 + v1).toNat, a1, s1, Ev.step (fun k => by rw [spec_l19DrawRoute.l1]) ?_, h1, by rw [List.length_take]; omega⟩
    simp only [if_neg (show ¬ ((l.length : Int) < 11) by omega), e1, Option.bind_some, w64 (x := 10 + v1) (by omega) (by omega), if_pos (show 0 ≤ 10 + v1 by omega), if_pos (show 10 + v1 ≤ (l.length : Int) by omega)]
    exact Ev.now _
  | succ d ih =>
    intro l a s hl h
    obtain ⟨r, a', s', hr, h', hl'⟩ := ih (l ++ [⟨0, 7, 0⟩]) a s (by simp; omega) h
    refine ⟨r, a', s', Ev.step (fun k => by rw [spec_l19DrawRoute.l1]) ?_, h', hl'⟩
    simp only [if_pos (show ((l.length : Int) < 11) by omega), if_pos (show l.length < 5864062014805 by omega)]
    exact hr
theorem draw_route_l0 {c : List Int} : ∀ (d : Nat) (l : List S91) (n a s : Int), n ≤ d → l.length + d ≤ 5 → Src c a s → ∃ r a' s', Ev (fun k => spec_l19DrawRoute.l0 k l n c a s) (r, a', s') ∧ Src c a' s' ∧ r.length ≤ 11 := by
  intro d
  induction d with
  | zero =>
    intro l n a s hn hl h
    obtain ⟨v1, a1, s1, e1, h1, _⟩ := draw_next h 60
    by_cases g0 : v1 = 0
    · refine ⟨[], a1, s1, Ev.step (fun k => by rw [spec_l19DrawRoute.l0]) ?_, h1, by simp⟩
      simp only [if_neg (show ¬ n > 0 by omega), e1, Option.bind_some, if_pos g0]
      exact Ev.now _
    · by_cases g1 : v1 = 1
      · obtain ⟨r, a', s', hr, h', hl'⟩ := draw_route_l1 (c := c) (11 - l.length) l a1 s1 (by omega) h1
        refine ⟨r, a', s', Ev.step (fun k => by rw [spec_l19DrawRoute.l0]) ?_, h', hl'⟩
        simp only [if_neg (show ¬ n > 0 by omega), e1, Option.bind_some, if_neg g0, if_pos g1]
        exact hr
      · refine ⟨l, a1, s1, Ev.step (fun k => by rw [spec_l19DrawRoute.l0]) ?_, h1, by omega⟩
        simp only [if_neg (show ¬ n > 0 by omega), e1, Option.bind_some, if_neg g0, if_neg g1]
        exact Ev.now _
  | succ d ih =>
    intro l n a s hn hl h
    by_cases hp : n > 0
    · obtain ⟨x, y, z, a1, s1, e1, h1⟩ := draw_step h
      obtain ⟨r, a', s', hr, h', hl'⟩ := ih (l ++ [⟨x, y, z⟩]) (n - 1) a1 s1 (by omega) (by simp; omega) h1
      refine ⟨r, a', s', Ev.step (fun k => by rw [spec_l19DrawRoute.l0]) ?_, h', hl'⟩
      simp only [if_pos hp, e1, Option.bind_some, if_pos (show l.length < 5864062014805 by omega)]
      by_cases hw : wrap64 (n - 1) = n - 1
      · rw [hw]; exact hr
      · exact absurd (w64 (by omega) (by omega)) hw
    · exact ih l n a s (by omega) (by omega) h
theorem draw_route {c : List Int} {a s : Int} (h : Src c a s) : ∃ r a' s', Ev (fun k => spec_l19DrawRoute.f k c a s) (r, a', s') ∧ Src c a' s' ∧ r.length ≤ 11 := by
  obtain ⟨v1, a1, s1, e1, h1, _, hv⟩ := draw_next h 5
  obtain ⟨k0, k1⟩ := hv (by omega)
  simp only [spec_l19DrawRoute.f, e1, Option.bind_some, w64 (x := 1 + v1) (by omega) (by omega)]
  exact draw_route_l0 5 [] (1 + v1) a1 s1 (by omega) (by simp) h1
theorem draw_items {c : List Int} {a s : Int} (h : Src c a s) : ∃ v a' s', spec_l19DrawItems.f c a s = some (v, a', s') ∧ Src c a' s' ∧ -1 ≤ v ∧ v ≤ 1000001 := by
  obtain ⟨v1, a1, s1, e1, h1, _⟩ := draw_next h 24
  simp only [spec_l19DrawItems.f, e1, Option.bind_some]
  by_cases g0 : v1 = 0
  · obtain ⟨v2, a2, s2, e2, h2, hm⟩ := draw_pick h1 [-1, 0, 1000000, 1000001] (by decide) (by decide)
    simp only [if_pos g0, e2, Option.bind_some]
    refine ⟨_, _, _, rfl, h2, ?_⟩
    simp at hm; omega
  · obtain ⟨v2, a2, s2, e2, h2, hm⟩ := draw_pick h1 [20, 3000, 20000] (by decide) (by decide)
    obtain ⟨v3, a3, s3, e3, h3, hv0, hv1⟩ := draw_next h2 v2
    simp only [if_neg g0, e2, e3, Option.bind_some]
    refine ⟨_, _, _, rfl, h3, ?_⟩
    simp at hm
    have := hv1 (by omega)
    omega
theorem draw_input (c : List Int) (hb : ∀ x ∈ c, (Lit.int .u8 x).wf = true) (hl : c.length ≤ 4096) : ∃ l n, Ev (fun k => spec_DrawInputFor.f k c) (l, n) ∧ l.length ≤ 11 := by
  obtain ⟨s0, h0, hs0⟩ := draw_from c hb hl
  obtain ⟨l, a1, s1, h1, hs1, hl1⟩ := draw_route hs0
  obtain ⟨v2, a2, s2, e2, hs2, _⟩ := draw_next hs1 12
  simp only [spec_DrawInputFor.f]
  by_cases g : v2 = 0
  · obtain ⟨v3, a3, s3, e3, hs3, _⟩ := draw_pick hs2 [900000, 999999, 1000000, 700000] (by decide) (by decide)
    refine ⟨l, v3, Ev.bind h0 (Ev.bind h1 ?_), hl1⟩
    simp only [e2, Option.bind_some, if_pos g, e3]
    exact Ev.now _
  · obtain ⟨v3, a3, s3, e3, hs3, _⟩ := draw_items hs2
    refine ⟨l, v3, Ev.bind h0 (Ev.bind h1 ?_), hl1⟩
    simp only [e2, Option.bind_some, if_neg g, e3]
    exact Ev.now _
theorem FnInputs : laws_FnInputs.Pure := by
  intro c hl hb
  refine Ev.rounds (g := fun k => laws_FnInputs.f k c) ?_
  simp only [laws_FnInputs.f, laws_big.f, Option.bind_some]
  by_cases hbig : (c.length : Int) > 4096
  · simp only [decide_eq_true hbig, if_true]
    exact Ev.now _
  simp only [decide_eq_false hbig, Bool.false_eq_true, if_false]
  obtain ⟨l, n, hd, hl11⟩ := draw_input c hb (by omega)
  have hl' : l.length ≤ 1048576 := by omega
  obtain ⟨r, ht, h1, h2⟩ := input_told l n hl'
  obtain ⟨o1, o2⟩ := overs_told l n hl' h1 h2
  refine Ev.bind hd ?_
  refine Ev.bind h2 ?_
  refine Ev.bind h1 ?_
  refine Ev.bind o2 ?_
  refine Ev.bind o1 ?_
  simp only [if_true]
  refine Ev.step (fun k => by rw [laws_FnInputs.j0]) ?_
  rcases ht with ⟨hc, rfl⟩ | ⟨hc, ⟨hg, rfl⟩ | ⟨m, hm, rfl⟩⟩
  · have e3 : ¬ codeOf (routeB l) n = 3 := by unfold codeOf; split <;> (try split) <;> omega
    simp only [if_neg hc, bne_self_eq_false, Bool.false_eq_true, if_false, if_neg e3]
    exact Ev.now _
  · simp only [show ¬ ((3 : Int) = 0) by omega, bne_self_eq_false, Bool.false_eq_true, if_false, if_true]
    refine Ev.bind (impl_OutputOf l 1000000 hl') ?_
    have hc' : codeOf (routeB l) 1000000 = 0 := by
      obtain ⟨hr, _⟩ := codeOf_zero hc
      rw [hr]; decide
    simp only [if_pos hc', if_true, decide_eq_true hg]
    exact Ev.now _
  · obtain ⟨m0, m1, m2, m3⟩ := hm
    obtain ⟨hr, hn0, hn1⟩ := codeOf_zero hc
    have hcm : codeOf (routeB l) m = 0 := by simp only [codeOf, hr, if_true, inR_iff.2 ⟨m0, m1⟩]
    simp only [show ¬ ((0 : Int) = 3) by omega, bne_self_eq_false, Bool.false_eq_true, if_false, if_true]
    refine Ev.bind (impl_OutputOf l m hl') ?_
    refine Ev.bind (impl_OutputOf l (wrap64 (m - 1)) hl') ?_
    simp only [if_pos hcm, if_true, if_pos m2]
    by_cases hz : m = 0
    · simp only [if_pos hz]
      exact Ev.now _
    · have e1 : wrap64 (m - 1) = m - 1 := w64 (by omega) (by omega)
      have hcm1 : codeOf (routeB l) (m - 1) = 0 := by simp only [codeOf, hr, if_true, inR_iff.2 (show 0 ≤ m - 1 ∧ m - 1 ≤ 1000000 by omega)]
      have hlt : outB l (m - 1) < n := by rcases m3 with h | h; exact absurd h hz; exact h
      simp only [if_neg hz, e1, if_pos hcm1, if_true, decide_eq_true hlt]
      exact Ev.now _

end Go.Proofs.Ytdgacclmnfpajaa.Pure
