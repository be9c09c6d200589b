/- The pure statement of law FnExactOversFor: what the printed functions compute answers true at every input. No condition. -/
import Derived.Test.YtdgacclmnfpajaaPFnExactOversForx3
set_option linter.unusedVariables false
set_option linter.unusedSimpArgs false
namespace Go.Proofs.Ytdgacclmnfpajaa.Pure
open Go.RowKit Go.Proofs.Ytdgacclmnfpajaa.PFnExactOversFor Go.Proofs.YtdgacclmnfpajaaW.PrintWords Go.Proofs.YtdgacclmnfpajaaW.PrintLast Go.Proofs.YtdgacclmnfpajaaW.PrintMore


/-! #### Numbers and rounds -/
theorem w64 {x : Int} (h1 : -9223372036854775808 ≤ x) (h2 : x ≤ 9223372036854775807) : wrap64 x = x := by
  unfold wrap64
  omega
theorem wf64 {x : Int} (h : (Lit.int .i64 x).wf = true) : -9223372036854775808 ≤ x ∧ x ≤ 9223372036854775807 := by
  simp only [Lit.wf, IntKind.min, IntKind.max, IntKind.signed, IntKind.bits, Bool.and_eq_true, decide_eq_true_eq, if_true] at h
  omega
theorem ev_of {α : Type} {g : Nat → Option α} {r : α} (h : ∀ k, g k = some r) : Ev g r := ⟨0, fun k _ => h k⟩
theorem ev_eq {α : Type} {g : Nat → Option α} {r r' : α} (h : Ev g r) (e : r = r') : Ev g r' := e ▸ h
/-- A loop over a list: what lies behind, what lies ahead. -/
theorem loop_list {α : Type} (l : List α) (Q : List α → List α → Prop) (h0 : Q l []) (hs : ∀ p x s, l = p ++ x :: s → Q (p ++ [x]) s → Q p (x :: s)) : Q [] l := by
  have h : ∀ s p, l = p ++ s → Q p s := by
    intro s
    induction s with
    | nil => intro p hp; rw [List.append_nil] at hp; rw [← hp]; exact h0
    | cons x s ih => intro p hp; exact hs p x s hp (ih (p ++ [x]) (by simp [hp]))
  exact h l [] rfl
theorem mid_lt {α : Type} {l p s : List α} {x : α} (h : l = p ++ x :: s) : (p.length : Int) < (l.length : Int) := by
  rw [h, List.length_append, List.length_cons]; omega
theorem mid_next {α : Type} {l p s : List α} {x : α} (h : l = p ++ x :: s) (hl : l.length ≤ 9223372036854775807) : wrap64 ((p.length : Int) + 1) = ((p ++ [x]).length : Int) := by
  have := mid_lt h
  rw [w64 (by omega) (by omega), List.length_append]; simp
theorem mid_get {α : Type} {l p s : List α} {x : α} (h : l = p ++ x :: s) (z : α) : l.getD (p.length : Int).toNat z = x := by
  rw [h]; simp
theorem get_mid {α : Type} (p s : List α) (x z : α) : (p ++ x :: s).getD (p.length : Int).toNat z = x := by simp
theorem nat_nn (n : Nat) : (0 : Int) ≤ (n : Int) := by omega
theorem nlt_self {α : Type} (l : List α) : ¬ ((l.length : Int) < (l.length : Int)) := by omega
theorem set_mid {α : Type} (p s : List α) (x y : α) : (p ++ x :: s).set ((p.length : Int).toNat) y = p ++ y :: s := by
  rw [Int.toNat_natCast, List.set_append_right _ _ (Nat.le_refl _)]; simp
theorem nil_or_snoc {α : Type} (p : List α) : p = [] ∨ ∃ q y, p = q ++ [y] := by
  rcases List.eq_nil_or_concat p with h | ⟨q, y, h⟩
  · exact .inl h
  · exact .inr ⟨q, y, by rw [h, List.concat_eq_append]⟩
theorem loop_all {α : Type} (l : List α) (Q : List α → List α → Prop) (h0 : Q l []) (hs : ∀ p x s, l = p ++ x :: s → Q (p ++ [x]) s → Q p (x :: s)) : ∀ s p, l = p ++ s → Q p s := by
  intro s
  induction s with
  | nil => intro p hp; rw [List.append_nil] at hp; rw [← hp]; exact h0
  | cons x s ih => intro p hp; exact hs p x s hp (ih (p ++ [x]) (by simp [hp]))
theorem szStep (l : List S93) (a : Int) (ha : 0 ≤ a) (hb : a ≤ 1048576) (h : l.length ≤ 9000000000000000000) : laws_szStepS.f l a = some (if a - l.length < 0 then (-1 : Int) else a - l.length) := by
  unfold laws_szStepS.f
  rw [w64 (by omega) (by omega)]
  split <;> rfl
def cvStep (x : S93) : S91 := ⟨x.f0, x.f1, x.f2⟩
theorem toStepS (l : List S93) (h : l.length ≤ 1048576) : Ev (fun k => laws_toStepS.f k l) (l.map cvStep) := by
  have H := loop_list l (fun p s => ∀ (a t : List S91), a.length = p.length → t.length = s.length → Ev (fun k => laws_toStepS.l0 k l (a ++ t) (p.length : Int)) (a ++ s.map cvStep)) ?_ ?_
  · have := H [] (List.replicate l.length z91) rfl (by simp)
    simp only [laws_toStepS.f, Int.toNat_natCast, if_pos (nat_nn l.length)]
    rw [show (fun k => if l.length ≤ _ then _ else _) = (fun k => laws_toStepS.l0 k l (List.replicate l.length z91) 0) from funext fun k => if_pos (by omega)]
    simpa using this
  · intro a t ha ht
    refine Ev.step (fun k => by rw [laws_toStepS.l0]) ?_
    simp only [if_neg (nlt_self l)]
    have : t = [] := List.eq_nil_of_length_eq_zero (by simpa using ht)
    subst this
    exact Ev.now _
  · intro p x s he ih a t ha ht
    obtain ⟨y, t, rfl⟩ : ∃ y t', t = y :: t' := by cases t with | nil => simp at ht | cons y t => exact ⟨y, t, rfl⟩
    refine Ev.step (fun k => by rw [laws_toStepS.l0]) ?_
    have e : ((p.length : Int) < ((a ++ y :: t).length : Int)) := by simp; omega
    have e2 := set_mid a t y (cvStep x)
    rw [ha] at e2
    simp only [if_pos (mid_lt he), if_pos (nat_nn p.length), laws_toStep.f, Option.bind_some, if_pos e, mid_next he (by omega), rd_T93, mid_get he]
    have := ih (a ++ [cvStep x]) t (by simp [ha]) (by simpa using ht)
    simp only [cvStep, List.append_assoc, List.singleton_append, List.map_cons] at this e2 ⊢
    rw [e2]
    exact this
theorem eqStepS (l : List S91) (h : l.length ≤ 9000000000000000000) : Ev (fun k => laws_eqStepS.f k l l) true := by
  simp only [laws_eqStepS.f, if_true]
  refine loop_list l (fun p s => Ev (fun k => laws_eqStepS.l0 k l l (p.length : Int)) true) ?_ ?_
  · refine Ev.step (fun k => by rw [laws_eqStepS.l0]) ?_
    simp only [if_neg (nlt_self l)]
    exact Ev.now _
  · intro p x s he ih
    refine Ev.step (fun k => by rw [laws_eqStepS.l0]) ?_
    simp only [if_pos (mid_lt he), if_pos (nat_nn p.length), laws_eqStep.f, if_true, Option.bind_some, mid_next he (by omega)]
    exact ih
def inR (a lo hi : Int) : Bool := decide (lo ≤ a) && decide (a ≤ hi)
theorem inR_iff {a lo hi : Int} : inR a lo hi = true ↔ lo ≤ a ∧ a ≤ hi := by simp [inR]
theorem l01In (a lo hi : Int) : spec_l01In.f a lo hi = some (inR a lo hi) := by
  unfold spec_l01In.f inR
  split
  · rename_i h; rw [decide_eq_true (show lo ≤ a from h), Bool.true_and]
  · rename_i h; rw [decide_eq_false (show ¬ lo ≤ a from h), Bool.false_and]
theorem inRange (a lo hi : Int) : impl_inRange.f a lo hi = some (inR a lo hi) := by
  unfold impl_inRange.f inR
  split
  · rename_i h; rw [decide_eq_true (show lo ≤ a from h), Bool.true_and]
  · rename_i h; rw [decide_eq_false (show ¬ lo ≤ a from h), Bool.false_and]
def stepB (a b c : Int) : Bool := inR a 0 10000 && (inR b 1 100000 && inR c 0 500)
theorem spec_IsStep (a b c : Int) : spec_IsStep.f a b c = some (stepB a b c) := by
  simp only [spec_IsStep.f, l01In, Option.bind_some, stepB]
  cases inR a 0 10000 <;> cases inR b 1 100000 <;> cases inR c 0 500 <;> rfl
theorem impl_IsStep (a b c : Int) : impl_IsStep.f a b c = some (stepB a b c) := by
  simp only [impl_IsStep.f, inRange, Option.bind_some, stepB]
  cases inR a 0 10000 <;> cases inR b 1 100000 <;> cases inR c 0 500 <;> rfl
def quo (a b : Int) : Int := wrap64 (Int.tdiv (wrap64 ((wrap64 (a + b)) - 1)) b)
theorem l01Ceil (a b : Int) (h : b ≠ 0) : spec_l01Ceil.f a b = some (quo a b) := by
  unfold spec_l01Ceil.f
  rw [if_neg h]
  rfl
theorem quotient (a b : Int) (h : b ≠ 0) : impl_quotient.f a b = some (quo a b) := by
  unfold impl_quotient.f
  rw [if_neg h]
  rfl
def minB (a b n : Int) : Int := wrap64 (a + quo (wrap64 (60 * n)) b)
theorem stepB_pos {a b c : Int} (h : stepB a b c = true) : b ≠ 0 := by
  simp only [stepB, Bool.and_eq_true, inR_iff] at h
  omega
def codeOf (b : Bool) (n : Int) : Int := if b = true then (if inR n 0 1000000 = true then 0 else 2) else 1
theorem l19Code (b : Bool) (n : Int) : spec_l19Code.f b n = some (codeOf b n) := by
  simp only [spec_l19Code.f, l01In, Option.bind_some, codeOf]
  cases b <;> cases inR n 0 1000000 <;> rfl
theorem codeOf_zero {b : Bool} {n : Int} (h : codeOf b n = 0) : b = true ∧ 0 ≤ n ∧ n ≤ 1000000 := by
  unfold codeOf at h
  cases b <;> cases h1 : inR n 0 1000000 <;> simp [h1] at h
  exact ⟨rfl, inR_iff.1 h1⟩
def okStep (x : S91) : Bool := stepB x.f0 x.f1 x.f2
def routeB (l : List S91) : Bool := l.all okStep && (decide (1 ≤ l.length) && decide (l.length ≤ 10))
theorem spec_IsRoute (l : List S91) (h : l.length ≤ 1048576) : Ev (fun k => spec_IsRoute.f k l) (routeB l) := by
  refine loop_list l (fun p s => Ev (fun k => spec_IsRoute.l0 k l (p.length : Int)) (s.all okStep && (decide (1 ≤ l.length) && decide (l.length ≤ 10)))) ?_ ?_
  · refine Ev.step (fun k => by rw [spec_IsRoute.l0]) ?_
    simp only [if_neg (nlt_self l), List.all_nil, Bool.true_and]
    by_cases h1 : (l.length : Int) ≥ 1
    · simp only [if_pos h1]
      exact ev_eq (Ev.now _) (by rw [decide_eq_true (show 1 ≤ l.length by omega), Bool.true_and]; exact decide_eq_decide.2 (by omega))
    · simp only [if_neg h1]
      exact ev_eq (Ev.now _) (by rw [decide_eq_false (show ¬ 1 ≤ l.length by omega), Bool.false_and])
  · intro p x s he ih
    refine Ev.step (fun k => by rw [spec_IsRoute.l0]) ?_
    simp only [if_pos (mid_lt he), if_pos (nat_nn p.length), mid_next he (by omega), rd_T91, mid_get he, spec_IsStep, Option.bind_some, List.all_cons]
    cases h0 : stepB x.f0 x.f1 x.f2 <;> simp [okStep, h0] <;> first | exact Ev.now _ | simpa [mid_next he (by omega)] using ih
theorem impl_IsRoute_1_ok (x : S91) : impl_IsRoute_1.f x.f0 x.f1 x.f2 = some (!(okStep x)) := by
  simp only [impl_IsRoute_1.f, impl_IsStep, Option.bind_some, okStep]
theorem contains_impl_IsRoute_1 (l : List S91) (h : l.length ≤ 1048576) : Ev (fun k => slices_ContainsFunc_at_impl_IsRoute_1.f k l) (!(l.all okStep)) := by
  have H := loop_list l (fun p s => ∃ r, Ev (fun k => slices_IndexFunc_at_impl_IsRoute_1.l0 k l (l.length : Int) (p.length : Int)) r ∧ decide (r ≥ 0) = !(s.all okStep)) ?_ ?_
  · obtain ⟨r, hr, e⟩ := H
    rw [← e]
    exact Ev.bind hr (Ev.now _)
  · refine ⟨-1, Ev.step (fun k => by rw [slices_IndexFunc_at_impl_IsRoute_1.l0]) ?_, by simp⟩
    simp only [if_neg (nlt_self l)]
    exact Ev.now _
  · rintro p x s he ⟨r, ih, e⟩
    by_cases hx : okStep x = true
    · refine ⟨r, Ev.step (fun k => by rw [slices_IndexFunc_at_impl_IsRoute_1.l0]) ?_, by rw [e]; simp [hx]⟩
      simp only [if_pos (mid_lt he), if_pos (nat_nn p.length), rd_T91, mid_get he, impl_IsRoute_1_ok, hx, Option.bind_some, mid_next he (by omega)]
      exact ih
    · refine ⟨(p.length : Int), Ev.step (fun k => by rw [slices_IndexFunc_at_impl_IsRoute_1.l0]) ?_, by simp [hx]⟩
      simp only [if_pos (mid_lt he), if_pos (nat_nn p.length), rd_T91, mid_get he, impl_IsRoute_1_ok, Bool.eq_false_iff.2 hx, Option.bind_some]
      exact Ev.now _
theorem impl_IsRoute (l : List S91) (h : l.length ≤ 1048576) : Ev (fun k => impl_IsRoute.f k l) (routeB l) := by
  simp only [impl_IsRoute.f, impl_length_Step.f, inRange, Option.bind_some]
  cases hl : inR (l.length : Int) 1 10
  · simp only [Bool.false_eq_true, if_false]
    have e : (decide (1 ≤ l.length) && decide (l.length ≤ 10)) = false := by
      rw [Bool.eq_false_iff] at hl ⊢
      intro h; apply hl; rw [inR_iff]; simp at h; omega
    exact ev_eq (Ev.now _) (by rw [routeB, e, Bool.and_false])
  · simp only [if_true]
    rw [inR_iff] at hl
    exact ev_eq (Ev.bind (contains_impl_IsRoute_1 l h) (Ev.now _)) (by simp [routeB, show l.length ≤ 10 by omega, show 1 ≤ l.length by omega])
theorem okStep_of {l : List S91} {n : Int} (h : codeOf (routeB l) n = 0) {x : S91} (hx : x ∈ l) : stepB x.f0 x.f1 x.f2 = true := by
  have := (codeOf_zero h).1
  simp only [routeB, Bool.and_eq_true, List.all_eq_true] at this
  exact this.1 x hx
theorem route_len {l : List S91} {n : Int} (h : codeOf (routeB l) n = 0) : 1 ≤ l.length ∧ l.length ≤ 10 := by
  have := (codeOf_zero h).1
  simp only [routeB, Bool.and_eq_true, decide_eq_true_eq] at this
  exact this.2

theorem checkRoute (l : List S91) (n : Int) (h : l.length ≤ 1048576) : Ev (fun k => impl_checkRoute.f k l n) (codeOf (routeB l) n) := by
  simp only [impl_checkRoute.f, impl_isRun.f, inRange, Option.bind_some]
  refine Ev.bind (impl_IsRoute l h) ?_
  cases routeB l <;> cases hn : inR n 0 1000000 <;> simp [codeOf, hn] <;> exact Ev.now _
/-- What stands behind the test of a route, on both sides. -/
theorem spec_route {α : Type} (l : List S91) (n : Int) (h : l.length ≤ 1048576) (g : Nat → Option α) (e : Int → α) (r : α) (h0 : codeOf (routeB l) n = 0 → Ev g r) (h1 : codeOf (routeB l) n ≠ 0 → r = e (codeOf (routeB l) n)) :
    Ev (fun k => (spec_IsRoute.f k l).bind fun t => (spec_l19Code.f t n).bind fun c => if c = 0 then g k else some (e c)) r := by
  refine Ev.bind (spec_IsRoute l h) ?_
  simp only [l19Code, Option.bind_some]
  by_cases hc : codeOf (routeB l) n = 0
  · simp only [if_pos hc]
    exact h0 hc
  · simp only [if_neg hc]
    exact ev_eq (Ev.now _) (h1 hc).symm
theorem impl_route {α : Type} (l : List S91) (n : Int) (h : l.length ≤ 1048576) (g : Nat → Option α) (e : Int → α) (r : α) (h0 : codeOf (routeB l) n = 0 → Ev g r) (h1 : codeOf (routeB l) n ≠ 0 → r = e (codeOf (routeB l) n)) :
    Ev (fun k => (impl_checkRoute.f k l n).bind fun c => if c = 0 then g k else some (e c)) r := by
  refine Ev.bind (checkRoute l n h) ?_
  by_cases hc : codeOf (routeB l) n = 0
  · simp only [if_pos hc]
    exact h0 hc
  · simp only [if_neg hc]
    exact ev_eq (Ev.now _) (h1 hc).symm
theorem both_route {α : Type} (l : List S91) (n : Int) (h : l.length ≤ 1048576) (g g' : Nat → Option α) (e : Int → α) (hg : codeOf (routeB l) n = 0 → ∃ r, Ev g r ∧ Ev g' r) :
    ∃ r, Ev (fun k => (spec_IsRoute.f k l).bind fun t => (spec_l19Code.f t n).bind fun c => if c = 0 then g k else some (e c)) r ∧ Ev (fun k => (impl_checkRoute.f k l n).bind fun c => if c = 0 then g' k else some (e c)) r := by
  by_cases hc : codeOf (routeB l) n = 0
  · obtain ⟨r, h1, h2⟩ := hg hc
    exact ⟨r, spec_route l n h g e r (fun _ => h1) (fun h => absurd hc h), impl_route l n h g' e r (fun _ => h2) (fun h => absurd hc h)⟩
  · exact ⟨_, spec_route l n h g e _ (fun h => absurd h hc) (fun _ => rfl), impl_route l n h g' e _ (fun h => absurd h hc) (fun _ => rfl)⟩
def passStep (x : S91) (n : Int) : Int := wrap64 (n - quo (wrap64 (n * x.f2)) 1000)
def passF : Int → List S91 → List Int
  | _, [] => []
  | n, x :: s => passStep x n :: passF (passStep x n) s
theorem passF_length (l : List S91) : ∀ n, (passF n l).length = l.length := by
  induction l with
  | nil => intro n; rfl
  | cons x l ih => intro n; simp [passF, ih]
def passedB (l : List S91) (n : Int) : List Int := n :: passF n l
theorem passedB_length (l : List S91) (n : Int) : (passedB l n).length = l.length + 1 := by simp [passedB, passF_length]
theorem spec_passed (l : List S91) (n : Int) (h : l.length ≤ 1048576) : Ev (fun k => spec_l22Passed.f k l n) (passedB l n) := by
  refine loop_list l (fun p s => ∀ (n : Int) (acc : List Int), acc.length = p.length + 1 → Ev (fun k => spec_l22Passed.l0 k l n acc (p.length : Int)) (acc ++ passF n s)) ?_ ?_ n [n] rfl
  · intro n acc ha
    refine Ev.step (fun k => by rw [spec_l22Passed.l0]) ?_
    simp only [if_neg (nlt_self l), passF, List.append_nil]
    exact Ev.now _
  · intro p x s he ih n acc ha
    have hp := mid_lt he
    have := ih (passStep x n) (acc ++ [passStep x n]) (by simp [ha])
    refine Ev.step (fun k => by rw [spec_l22Passed.l0]) ?_
    simp only [if_pos hp, if_pos (nat_nn p.length), rd_T91, mid_get he, spec_l22Spoil.f, l01Ceil _ 1000 (by decide), Option.bind_some, if_pos (show acc.length < 17592186044416 by omega), mid_next he (by omega)]
    simpa [passF, passStep] using this
theorem impl_passed (l : List S91) (n : Int) (h : l.length ≤ 1048576) : Ev (fun k => impl_passed.f k l n) (passedB l n) := by
  refine loop_list l (fun p s => ∀ (n : Int) (acc : List Int), acc.length = p.length + 1 → Ev (fun k => impl_passed.l0 k n acc l (l.length : Int) (p.length : Int)) (acc ++ passF n s)) ?_ ?_ n [n] rfl
  · intro n acc ha
    refine Ev.step (fun k => by rw [impl_passed.l0]) ?_
    simp only [if_neg (nlt_self l), passF, List.append_nil]
    exact Ev.now _
  · intro p x s he ih n acc ha
    have hp := mid_lt he
    have := ih (passStep x n) (acc ++ [passStep x n]) (by simp [ha])
    refine Ev.step (fun k => by rw [impl_passed.l0]) ?_
    simp only [if_pos hp, if_pos (nat_nn p.length), rd_T91, mid_get he, quotient _ 1000 (by decide), Option.bind_some, if_pos (show acc.length < 17592186044416 by omega), mid_next he (by omega)]
    simpa [passF, passStep] using this
def outB (l : List S91) (n : Int) : Int := rd (passedB l n) (l.length : Int)
theorem spec_output (l : List S91) (n : Int) (h : l.length ≤ 1048576) : Ev (fun k => spec_l22Output.f k l n) (outB l n) := by
  simp only [spec_l22Output.f]
  refine Ev.bind (spec_passed l n h) ?_
  simp only [if_pos (nat_nn l.length), if_pos (show (l.length : Int) < ((passedB l n).length : Int) by rw [passedB_length]; omega)]
  exact Ev.now _
theorem impl_output (l : List S91) (n : Int) (h : l.length ≤ 1048576) : Ev (fun k => impl_output.f k l n) (outB l n) := by
  simp only [impl_output.f]
  refine Ev.bind (impl_passed l n h) ?_
  simp only [if_pos (nat_nn l.length), if_pos (show (l.length : Int) < ((passedB l n).length : Int) by rw [passedB_length]; omega)]
  exact Ev.now _
theorem both_search (l : List S91) (n : Int) (h : l.length ≤ 1048576) : ∀ (d : Nat) (low high : Int), high - low ≤ d → 0 ≤ low → low ≤ high → high ≤ 1000000 → ∃ r, Ev (fun k => spec_l22Input.l0 k l n low high) r ∧ Ev (fun k => impl_InputFor.l0 k l n low high) r := by
  intro d
  induction d with
  | zero =>
    intro low high hd h0 h1 h2
    refine ⟨(low, 0), Ev.step (fun k => by rw [spec_l22Input.l0]) ?_, Ev.step (fun k => by rw [impl_InputFor.l0]) ?_⟩ <;> simp only [if_neg (show ¬ low < high by omega)] <;> exact Ev.now _
  | succ d ih =>
    intro low high hd h0 h1 h2
    by_cases hlt : low < high
    · have e1 : wrap64 (low + high) = low + high := w64 (by omega) (by omega)
      have e2 : Int.tdiv (low + high) 2 = (low + high) / 2 := Int.tdiv_eq_ediv_of_nonneg (by omega)
      have e3 : wrap64 ((low + high) / 2) = (low + high) / 2 := w64 (by omega) (by omega)
      have e4 : wrap64 ((low + high) / 2 + 1) = (low + high) / 2 + 1 := w64 (by omega) (by omega)
      by_cases hg : outB l ((low + high) / 2) ≥ n
      · obtain ⟨r, g1, g2⟩ := ih low ((low + high) / 2) (by omega) (by omega) (by omega) (by omega)
        refine ⟨r, Ev.step (fun k => by rw [spec_l22Input.l0]) ?_, Ev.step (fun k => by rw [impl_InputFor.l0]) ?_⟩ <;> simp only [if_pos hlt, e1, e2, e3, e4]
        · refine Ev.bind (spec_output l _ h) ?_
          simp only [if_pos hg]
          exact g1
        · refine Ev.bind (impl_output l _ h) ?_
          simp only [if_pos hg]
          exact g2
      · obtain ⟨r, g1, g2⟩ := ih ((low + high) / 2 + 1) high (by omega) (by omega) (by omega) (by omega)
        refine ⟨r, Ev.step (fun k => by rw [spec_l22Input.l0]) ?_, Ev.step (fun k => by rw [impl_InputFor.l0]) ?_⟩ <;> simp only [if_pos hlt, e1, e2, e3, e4]
        · refine Ev.bind (spec_output l _ h) ?_
          simp only [if_neg hg]
          exact g1
        · refine Ev.bind (impl_output l _ h) ?_
          simp only [if_neg hg]
          exact g2
    · refine ⟨(low, 0), Ev.step (fun k => by rw [spec_l22Input.l0]) ?_, Ev.step (fun k => by rw [impl_InputFor.l0]) ?_⟩ <;> simp only [if_neg hlt] <;> exact Ev.now _
theorem both_InputFor (l : List S91) (n : Int) (h : l.length ≤ 1048576) : ∃ r, Ev (fun k => spec_InputFor.f k l n) r ∧ Ev (fun k => impl_InputFor.f k l n) r := by
  simp only [spec_InputFor.f, impl_InputFor.f, spec_l22Input.f]
  refine both_route l n h _ _ (fun c => (0, c)) (fun hc => ?_)
  by_cases hg : outB l 1000000 < n
  · refine ⟨(0, 3), Ev.bind (a := (0, 3)) (Ev.bind (spec_output l _ h) ?_) (Ev.now _), Ev.bind (impl_output l _ h) ?_⟩ <;> simp only [if_pos hg] <;> exact Ev.now _
  · obtain ⟨r, h1, h2⟩ := both_search l n h 1000000 0 1000000 (by omega) (by omega) (by omega) (by omega)
    refine ⟨r, Ev.bind (a := r) (Ev.bind (spec_output l _ h) ?_) (Ev.now _), Ev.bind (impl_output l _ h) ?_⟩ <;> simp only [if_neg hg]
    · exact h1
    · exact h2
theorem both_OversFor (l : List S91) (n : Int) (h : l.length ≤ 1048576) : ∃ r, Ev (fun k => spec_OversFor.f k l n) r ∧ Ev (fun k => impl_OversFor.f k l n) r := by
  obtain ⟨r, h1, h2⟩ := both_InputFor l n h
  simp only [spec_OversFor.f, impl_OversFor.f]
  by_cases hr : r.2 = 0
  · refine ⟨(wrap64 (outB l r.1 - n), 0), Ev.bind h1 ?_, Ev.bind h2 ?_⟩ <;> simp only [if_pos hr]
    · exact Ev.bind (spec_output l _ h) (Ev.now _)
    · exact Ev.bind (impl_output l _ h) (Ev.now _)
  · refine ⟨(0, r.2), Ev.bind h1 ?_, Ev.bind h2 ?_⟩ <;> simp only [if_neg hr] <;> exact Ev.now _
theorem FnExactOversFor : laws_FnExactOversFor.Pure := by
  intro l n hl hw _
  refine Ev.rounds (g := fun k => laws_FnExactOversFor.f k l n) ?_
  simp only [laws_FnExactOversFor.f, szStep l 1048576 (by omega) (by omega) (by omega), Option.bind_some]
  by_cases hs : (1048576 : Int) - l.length < 0
  · simp only [if_pos hs]
    exact Ev.now _
  · simp only [if_neg hs]
    have h0 : l.length ≤ 1048576 := by omega
    have hm : (l.map cvStep).length ≤ 1048576 := by simpa using h0
    obtain ⟨r, h1, h2⟩ := both_OversFor (l.map cvStep) n hm
    refine Ev.bind (toStepS l h0) ?_
    refine Ev.bind h1 ?_
    refine Ev.bind (toStepS l h0) ?_
    refine Ev.bind h2 ?_
    simp only [if_true, bne_self_eq_false]
    refine Ev.step (fun k => by rw [laws_FnExactOversFor.j0]) ?_
    simp only [Bool.false_eq_true, if_false]
    refine Ev.bind (toStepS l h0) ?_
    refine Ev.bind (eqStepS _ (by omega)) ?_
    simp only [if_true]
    exact Ev.now _

end Go.Proofs.Ytdgacclmnfpajaa.Pure
