/- The pure statement of law FnOutputs: what the printed functions compute answers true at every input. No condition. -/
import Derived.Test.YtefnoiajfjbbpaaPFnOutputsx7
set_option linter.unusedVariables false
set_option linter.unusedSimpArgs false
namespace Go.Proofs.Ytefnoiajfjbbpaa.Pure
open Go.RowKit Go.Proofs.Ytefnoiajfjbbpaa.PFnOutputs Go.Proofs.YtefnoiajfjbbpaaW.PrintWords Go.Proofs.YtefnoiajfjbbpaaW.PrintLast Go.Proofs.YtefnoiajfjbbpaaW.PrintMore


/-! #### Numbers and rounds -/
theorem w64 {x : Int} (h1 : -9223372036854775808 ≤ x) (h2 : x ≤ 9223372036854775807) : wrap64 x = x := by
  unfold wrap64
  omega
theorem wf64 {x : Int} (h : (Lit.int .i64 x).wf = true) : -9223372036854775808 ≤ x ∧ x ≤ 9223372036854775807 := by
  simp only [Lit.wf, IntKind.min, IntKind.max, IntKind.signed, IntKind.bits, Bool.and_eq_true, decide_eq_true_eq, if_true] at h
  omega
theorem ev_of {α : Type} {g : Nat → Option α} {r : α} (h : ∀ k, g k = some r) : Ev g r := ⟨0, fun k _ => h k⟩
theorem ev_eq {α : Type} {g : Nat → Option α} {r r' : α} (h : Ev g r) (e : r = r') : Ev g r' := e ▸ h
/-- A loop over a list: what lies behind, what lies ahead. -/
theorem loop_list {α : Type} (l : List α) (Q : List α → List α → Prop) (h0 : Q l []) (hs : ∀ p x s, l = p ++ x :: s → Q (p ++ [x]) s → Q p (x :: s)) : Q [] l := by
  have h : ∀ s p, l = p ++ s → Q p s := by
    intro s
    induction s with
    | nil => intro p hp; rw [List.append_nil] at hp; rw [← hp]; exact h0
    | cons x s ih => intro p hp; exact hs p x s hp (ih (p ++ [x]) (by simp [hp]))
  exact h l [] rfl
theorem mid_lt {α : Type} {l p s : List α} {x : α} (h : l = p ++ x :: s) : (p.length : Int) < (l.length : Int) := by
  rw [h, List.length_append, List.length_cons]; omega
theorem mid_next {α : Type} {l p s : List α} {x : α} (h : l = p ++ x :: s) (hl : l.length ≤ 9223372036854775807) : wrap64 ((p.length : Int) + 1) = ((p ++ [x]).length : Int) := by
  have := mid_lt h
  rw [w64 (by omega) (by omega), List.length_append]; simp
theorem mid_get {α : Type} {l p s : List α} {x : α} (h : l = p ++ x :: s) (z : α) : l.getD (p.length : Int).toNat z = x := by
  rw [h]; simp
theorem get_mid {α : Type} (p s : List α) (x z : α) : (p ++ x :: s).getD (p.length : Int).toNat z = x := by simp
theorem nat_nn (n : Nat) : (0 : Int) ≤ (n : Int) := by omega
theorem nlt_self {α : Type} (l : List α) : ¬ ((l.length : Int) < (l.length : Int)) := by omega
theorem set_mid {α : Type} (p s : List α) (x y : α) : (p ++ x :: s).set ((p.length : Int).toNat) y = p ++ y :: s := by
  rw [Int.toNat_natCast, List.set_append_right _ _ (Nat.le_refl _)]; simp
theorem nil_or_snoc {α : Type} (p : List α) : p = [] ∨ ∃ q y, p = q ++ [y] := by
  rcases List.eq_nil_or_concat p with h | ⟨q, y, h⟩
  · exact .inl h
  · exact .inr ⟨q, y, by rw [h, List.concat_eq_append]⟩
theorem loop_all {α : Type} (l : List α) (Q : List α → List α → Prop) (h0 : Q l []) (hs : ∀ p x s, l = p ++ x :: s → Q (p ++ [x]) s → Q p (x :: s)) : ∀ s p, l = p ++ s → Q p s := by
  intro s
  induction s with
  | nil => intro p hp; rw [List.append_nil] at hp; rw [← hp]; exact h0
  | cons x s ih => intro p hp; exact hs p x s hp (ih (p ++ [x]) (by simp [hp]))
def inR (a lo hi : Int) : Bool := decide (lo ≤ a) && decide (a ≤ hi)
theorem inR_iff {a lo hi : Int} : inR a lo hi = true ↔ lo ≤ a ∧ a ≤ hi := by simp [inR]
theorem l01In (a lo hi : Int) : spec_l01In.f a lo hi = some (inR a lo hi) := by
  unfold spec_l01In.f inR
  split
  · rename_i h; rw [decide_eq_true (show lo ≤ a from h), Bool.true_and]
  · rename_i h; rw [decide_eq_false (show ¬ lo ≤ a from h), Bool.false_and]
theorem inRange (a lo hi : Int) : impl_inRange.f a lo hi = some (inR a lo hi) := by
  unfold impl_inRange.f inR
  split
  · rename_i h; rw [decide_eq_true (show lo ≤ a from h), Bool.true_and]
  · rename_i h; rw [decide_eq_false (show ¬ lo ≤ a from h), Bool.false_and]
def stepB (a b c : Int) : Bool := inR a 0 10000 && (inR b 1 100000 && inR c 0 500)
theorem spec_IsStep (a b c : Int) : spec_IsStep.f a b c = some (stepB a b c) := by
  simp only [spec_IsStep.f, l01In, Option.bind_some, stepB]
  cases inR a 0 10000 <;> cases inR b 1 100000 <;> cases inR c 0 500 <;> rfl
theorem impl_IsStep (a b c : Int) : impl_IsStep.f a b c = some (stepB a b c) := by
  simp only [impl_IsStep.f, inRange, Option.bind_some, stepB]
  cases inR a 0 10000 <;> cases inR b 1 100000 <;> cases inR c 0 500 <;> rfl
def quo (a b : Int) : Int := wrap64 (Int.tdiv (wrap64 ((wrap64 (a + b)) - 1)) b)
theorem l01Ceil (a b : Int) (h : b ≠ 0) : spec_l01Ceil.f a b = some (quo a b) := by
  unfold spec_l01Ceil.f
  rw [if_neg h]
  rfl
theorem quotient (a b : Int) (h : b ≠ 0) : impl_quotient.f a b = some (quo a b) := by
  unfold impl_quotient.f
  rw [if_neg h]
  rfl
def minB (a b n : Int) : Int := wrap64 (a + quo (wrap64 (60 * n)) b)
theorem stepB_pos {a b c : Int} (h : stepB a b c = true) : b ≠ 0 := by
  simp only [stepB, Bool.and_eq_true, inR_iff] at h
  omega
theorem l19Time (a b c n : Int) (h : stepB a b c = true) : spec_l19Time.f a b c n = some (minB a b n) := by
  simp only [spec_l19Time.f, l01Ceil _ b (stepB_pos h), Option.bind_some]
  rfl
theorem minutesOf (a b c n : Int) (h : stepB a b c = true) : impl_minutesOf.f a b c n = some (minB a b n) := by
  simp only [impl_minutesOf.f, quotient _ b (stepB_pos h), Option.bind_some, Int.mul_comm n 60]
  rfl
def codeOf (b : Bool) (n : Int) : Int := if b = true then (if inR n 0 1000000 = true then 0 else 2) else 1
theorem l19Code (b : Bool) (n : Int) : spec_l19Code.f b n = some (codeOf b n) := by
  simp only [spec_l19Code.f, l01In, Option.bind_some, codeOf]
  cases b <;> cases inR n 0 1000000 <;> rfl
theorem codeOf_zero {b : Bool} {n : Int} (h : codeOf b n = 0) : b = true ∧ 0 ≤ n ∧ n ≤ 1000000 := by
  unfold codeOf at h
  cases b <;> cases h1 : inR n 0 1000000 <;> simp [h1] at h
  exact ⟨rfl, inR_iff.1 h1⟩
def okStep (x : S123) : Bool := stepB x.f0 x.f1 x.f2
def routeB (l : List S123) : Bool := l.all okStep && (decide (1 ≤ l.length) && decide (l.length ≤ 10))
theorem spec_IsRoute (l : List S123) (h : l.length ≤ 1048576) : Ev (fun k => spec_IsRoute.f k l) (routeB l) := by
  refine loop_list l (fun p s => Ev (fun k => spec_IsRoute.l0 k l (p.length : Int)) (s.all okStep && (decide (1 ≤ l.length) && decide (l.length ≤ 10)))) ?_ ?_
  · refine Ev.step (fun k => by rw [spec_IsRoute.l0]) ?_
    simp only [if_neg (nlt_self l), List.all_nil, Bool.true_and]
    by_cases h1 : (l.length : Int) ≥ 1
    · simp only [if_pos h1]
      exact ev_eq (Ev.now _) (by rw [decide_eq_true (show 1 ≤ l.length by omega), Bool.true_and]; exact decide_eq_decide.2 (by omega))
    · simp only [if_neg h1]
      exact ev_eq (Ev.now _) (by rw [decide_eq_false (show ¬ 1 ≤ l.length by omega), Bool.false_and])
  · intro p x s he ih
    refine Ev.step (fun k => by rw [spec_IsRoute.l0]) ?_
    simp only [if_pos (mid_lt he), if_pos (nat_nn p.length), mid_next he (by omega), rd_T123, mid_get he, spec_IsStep, Option.bind_some, List.all_cons]
    cases h0 : stepB x.f0 x.f1 x.f2 <;> simp [okStep, h0] <;> first | exact Ev.now _ | simpa [mid_next he (by omega)] using ih
theorem impl_IsRoute_1_ok (x : S123) : impl_IsRoute_1.f x.f0 x.f1 x.f2 = some (!(okStep x)) := by
  simp only [impl_IsRoute_1.f, impl_IsStep, Option.bind_some, okStep]
theorem contains_impl_IsRoute_1 (l : List S123) (h : l.length ≤ 1048576) : Ev (fun k => slices_ContainsFunc_at_impl_IsRoute_1.f k l) (!(l.all okStep)) := by
  have H := loop_list l (fun p s => ∃ r, Ev (fun k => slices_IndexFunc_at_impl_IsRoute_1.l0 k l (l.length : Int) (p.length : Int)) r ∧ decide (r ≥ 0) = !(s.all okStep)) ?_ ?_
  · obtain ⟨r, hr, e⟩ := H
    rw [← e]
    exact Ev.bind hr (Ev.now _)
  · refine ⟨-1, Ev.step (fun k => by rw [slices_IndexFunc_at_impl_IsRoute_1.l0]) ?_, by simp⟩
    simp only [if_neg (nlt_self l)]
    exact Ev.now _
  · rintro p x s he ⟨r, ih, e⟩
    by_cases hx : okStep x = true
    · refine ⟨r, Ev.step (fun k => by rw [slices_IndexFunc_at_impl_IsRoute_1.l0]) ?_, by rw [e]; simp [hx]⟩
      simp only [if_pos (mid_lt he), if_pos (nat_nn p.length), rd_T123, mid_get he, impl_IsRoute_1_ok, hx, Option.bind_some, mid_next he (by omega)]
      exact ih
    · refine ⟨(p.length : Int), Ev.step (fun k => by rw [slices_IndexFunc_at_impl_IsRoute_1.l0]) ?_, by simp [hx]⟩
      simp only [if_pos (mid_lt he), if_pos (nat_nn p.length), rd_T123, mid_get he, impl_IsRoute_1_ok, Bool.eq_false_iff.2 hx, Option.bind_some]
      exact Ev.now _
theorem impl_IsRoute (l : List S123) (h : l.length ≤ 1048576) : Ev (fun k => impl_IsRoute.f k l) (routeB l) := by
  simp only [impl_IsRoute.f, impl_length_Step.f, inRange, Option.bind_some]
  cases hl : inR (l.length : Int) 1 10
  · simp only [Bool.false_eq_true, if_false]
    have e : (decide (1 ≤ l.length) && decide (l.length ≤ 10)) = false := by
      rw [Bool.eq_false_iff] at hl ⊢
      intro h; apply hl; rw [inR_iff]; simp at h; omega
    exact ev_eq (Ev.now _) (by rw [routeB, e, Bool.and_false])
  · simp only [if_true]
    rw [inR_iff] at hl
    exact ev_eq (Ev.bind (contains_impl_IsRoute_1 l h) (Ev.now _)) (by simp [routeB, show l.length ≤ 10 by omega, show 1 ≤ l.length by omega])
theorem okStep_of {l : List S123} {n : Int} (h : codeOf (routeB l) n = 0) {x : S123} (hx : x ∈ l) : stepB x.f0 x.f1 x.f2 = true := by
  have := (codeOf_zero h).1
  simp only [routeB, Bool.and_eq_true, List.all_eq_true] at this
  exact this.1 x hx
theorem route_len {l : List S123} {n : Int} (h : codeOf (routeB l) n = 0) : 1 ≤ l.length ∧ l.length ≤ 10 := by
  have := (codeOf_zero h).1
  simp only [routeB, Bool.and_eq_true, decide_eq_true_eq] at this
  exact this.2

theorem checkRoute (l : List S123) (n : Int) (h : l.length ≤ 1048576) : Ev (fun k => impl_checkRoute.f k l n) (codeOf (routeB l) n) := by
  simp only [impl_checkRoute.f, impl_isRun.f, inRange, Option.bind_some]
  refine Ev.bind (impl_IsRoute l h) ?_
  cases routeB l <;> cases hn : inR n 0 1000000 <;> simp [codeOf, hn] <;> exact Ev.now _
/-- What stands behind the test of a route, on both sides. -/
theorem spec_route {α : Type} (l : List S123) (n : Int) (h : l.length ≤ 1048576) (g : Nat → Option α) (e : Int → α) (r : α) (h0 : codeOf (routeB l) n = 0 → Ev g r) (h1 : codeOf (routeB l) n ≠ 0 → r = e (codeOf (routeB l) n)) :
    Ev (fun k => (spec_IsRoute.f k l).bind fun t => (spec_l19Code.f t n).bind fun c => if c = 0 then g k else some (e c)) r := by
  refine Ev.bind (spec_IsRoute l h) ?_
  simp only [l19Code, Option.bind_some]
  by_cases hc : codeOf (routeB l) n = 0
  · simp only [if_pos hc]
    exact h0 hc
  · simp only [if_neg hc]
    exact ev_eq (Ev.now _) (h1 hc).symm
theorem impl_route {α : Type} (l : List S123) (n : Int) (h : l.length ≤ 1048576) (g : Nat → Option α) (e : Int → α) (r : α) (h0 : codeOf (routeB l) n = 0 → Ev g r) (h1 : codeOf (routeB l) n ≠ 0 → r = e (codeOf (routeB l) n)) :
    Ev (fun k => (impl_checkRoute.f k l n).bind fun c => if c = 0 then g k else some (e c)) r := by
  refine Ev.bind (checkRoute l n h) ?_
  by_cases hc : codeOf (routeB l) n = 0
  · simp only [if_pos hc]
    exact h0 hc
  · simp only [if_neg hc]
    exact ev_eq (Ev.now _) (h1 hc).symm
theorem both_route {α : Type} (l : List S123) (n : Int) (h : l.length ≤ 1048576) (g g' : Nat → Option α) (e : Int → α) (hg : codeOf (routeB l) n = 0 → ∃ r, Ev g r ∧ Ev g' r) :
    ∃ r, Ev (fun k => (spec_IsRoute.f k l).bind fun t => (spec_l19Code.f t n).bind fun c => if c = 0 then g k else some (e c)) r ∧ Ev (fun k => (impl_checkRoute.f k l n).bind fun c => if c = 0 then g' k else some (e c)) r := by
  by_cases hc : codeOf (routeB l) n = 0
  · obtain ⟨r, h1, h2⟩ := hg hc
    exact ⟨r, spec_route l n h g e r (fun _ => h1) (fun h => absurd hc h), impl_route l n h g' e r (fun _ => h2) (fun h => absurd hc h)⟩
  · exact ⟨_, spec_route l n h g e _ (fun h => absurd h hc) (fun _ => rfl), impl_route l n h g' e _ (fun h => absurd h hc) (fun _ => rfl)⟩
def passStep (x : S123) (n : Int) : Int := wrap64 (n - quo (wrap64 (n * x.f2)) 1000)
def passF : Int → List S123 → List Int
  | _, [] => []
  | n, x :: s => passStep x n :: passF (passStep x n) s
theorem passF_length (l : List S123) : ∀ n, (passF n l).length = l.length := by
  induction l with
  | nil => intro n; rfl
  | cons x l ih => intro n; simp [passF, ih]
def passedB (l : List S123) (n : Int) : List Int := n :: passF n l
theorem passedB_length (l : List S123) (n : Int) : (passedB l n).length = l.length + 1 := by simp [passedB, passF_length]
theorem spec_passed (l : List S123) (n : Int) (h : l.length ≤ 1048576) : Ev (fun k => spec_l22Passed.f k l n) (passedB l n) := by
  refine loop_list l (fun p s => ∀ (n : Int) (acc : List Int), acc.length = p.length + 1 → Ev (fun k => spec_l22Passed.l0 k l n acc (p.length : Int)) (acc ++ passF n s)) ?_ ?_ n [n] rfl
  · intro n acc ha
    refine Ev.step (fun k => by rw [spec_l22Passed.l0]) ?_
    simp only [if_neg (nlt_self l), passF, List.append_nil]
    exact Ev.now _
  · intro p x s he ih n acc ha
    have hp := mid_lt he
    have := ih (passStep x n) (acc ++ [passStep x n]) (by simp [ha])
    refine Ev.step (fun k => by rw [spec_l22Passed.l0]) ?_
    simp only [if_pos hp, if_pos (nat_nn p.length), rd_T123, mid_get he, spec_l22Spoil.f, l01Ceil _ 1000 (by decide), Option.bind_some, if_pos (show acc.length < 17592186044416 by omega), mid_next he (by omega)]
    simpa [passF, passStep] using this
theorem impl_passed (l : List S123) (n : Int) (h : l.length ≤ 1048576) : Ev (fun k => impl_passed.f k l n) (passedB l n) := by
  refine loop_list l (fun p s => ∀ (n : Int) (acc : List Int), acc.length = p.length + 1 → Ev (fun k => impl_passed.l0 k n acc l (l.length : Int) (p.length : Int)) (acc ++ passF n s)) ?_ ?_ n [n] rfl
  · intro n acc ha
    refine Ev.step (fun k => by rw [impl_passed.l0]) ?_
    simp only [if_neg (nlt_self l), passF, List.append_nil]
    exact Ev.now _
  · intro p x s he ih n acc ha
    have hp := mid_lt he
    have := ih (passStep x n) (acc ++ [passStep x n]) (by simp [ha])
    refine Ev.step (fun k => by rw [impl_passed.l0]) ?_
    simp only [if_pos hp, if_pos (nat_nn p.length), rd_T123, mid_get he, quotient _ 1000 (by decide), Option.bind_some, if_pos (show acc.length < 17592186044416 by omega), mid_next he (by omega)]
    simpa [passF, passStep] using this
def outB (l : List S123) (n : Int) : Int := rd (passedB l n) (l.length : Int)
theorem spec_output (l : List S123) (n : Int) (h : l.length ≤ 1048576) : Ev (fun k => spec_l22Output.f k l n) (outB l n) := by
  simp only [spec_l22Output.f]
  refine Ev.bind (spec_passed l n h) ?_
  simp only [if_pos (nat_nn l.length), if_pos (show (l.length : Int) < ((passedB l n).length : Int) by rw [passedB_length]; omega)]
  exact Ev.now _
theorem impl_output (l : List S123) (n : Int) (h : l.length ≤ 1048576) : Ev (fun k => impl_output.f k l n) (outB l n) := by
  simp only [impl_output.f]
  refine Ev.bind (impl_passed l n h) ?_
  simp only [if_pos (nat_nn l.length), if_pos (show (l.length : Int) < ((passedB l n).length : Int) by rw [passedB_length]; omega)]
  exact Ev.now _
/-- A source that stands somewhere in its code. -/
def Src (c : List Int) (a s : Int) : Prop := (∀ x ∈ c, 0 ≤ x ∧ x ≤ 255) ∧ c.length ≤ 4096 ∧ 0 ≤ a ∧ a ≤ (c.length : Int) ∧ 0 ≤ s ∧ s < 2147483647
theorem rd_byte {c : List Int} (h : ∀ x ∈ c, 0 ≤ x ∧ x ≤ 255) (i : Int) : 0 ≤ rd c i ∧ rd c i ≤ 255 := by
  unfold rd
  rw [List.getD_eq_getElem?_getD]
  cases e : c[i.toNat]? with
  | none => simp
  | some v => exact h v (List.mem_of_getElem? e)
theorem tmod_range {x n : Int} (hx : 0 ≤ x) (hn : 1 < n) : 0 ≤ Int.tmod x n ∧ Int.tmod x n < n := by
  rw [Int.tmod_eq_emod_of_nonneg hx]
  exact ⟨Int.emod_nonneg _ (by omega), Int.emod_lt_of_pos _ (by omega)⟩
theorem seed_step {s : Int} (h0 : 0 ≤ s) (h1 : s < 2147483647) : 0 ≤ Int.tmod (wrap64 ((wrap64 (s * 48271)) + 61)) 2147483647 ∧ Int.tmod (wrap64 ((wrap64 (s * 48271)) + 61)) 2147483647 < 2147483647 := by
  rw [w64 (x := s * 48271) (by omega) (by omega), w64 (by omega) (by omega)]
  exact tmod_range (by omega) (by omega)
theorem draw_next {c : List Int} {a s : Int} (h : Src c a s) (n : Int) : ∃ v a' s', spec_l01Next.f c a s n = some (v, a', s') ∧ Src c a' s' ∧ (n ≤ 1 → v = 0) ∧ (1 < n → 0 ≤ v ∧ v < n) := by
  obtain ⟨hb, hl, ha, ha1, hs, hs1⟩ := h
  by_cases hn : n ≤ 1
  · exact ⟨0, a, s, by simp only [spec_l01Next.f, if_pos hn], ⟨hb, hl, ha, ha1, hs, hs1⟩, fun _ => rfl, fun h => by omega⟩
  · have hn0 : ¬ n = 0 := by omega
    obtain ⟨k0, k1⟩ := seed_step hs hs1
    generalize hk : Int.tmod (wrap64 ((wrap64 (s * 48271)) + 61)) 2147483647 = t at k0 k1
    have hx : Int.tdiv t 31 = t / 31 := Int.tdiv_eq_ediv_of_nonneg k0
    have hx1 : wrap64 (t / 31) = t / 31 := w64 (by omega) (by omega)
    by_cases hlt : a < (c.length : Int)
    · have e1 : wrap64 (a + 1) = a + 1 := w64 (by omega) (by omega)
      have e2 : wrap64 (a + 1 - 1) = a := by rw [show a + 1 - 1 = a by omega]; exact w64 (by omega) (by omega)
      obtain ⟨b0, b1⟩ := rd_byte hb a
      have e3 : wrap64 (rd c a) = rd c a := w64 (by omega) (by omega)
      have e4 : wrap64 (t / 31 + rd c a) = t / 31 + rd c a := w64 (by omega) (by omega)
      have hS : Src c (a + 1) t := ⟨hb, hl, by omega, by omega, k0, k1⟩
      by_cases h256 : n ≤ 256
      · by_cases he : Int.tmod (a + 1) 2 = 0
        · refine ⟨Int.tmod (rd c a) n, a + 1, t, ?_, hS, fun h => by omega, fun h => tmod_range b0 h⟩
          simp only [spec_l01Next.f, if_neg hn, if_pos hlt, if_pos ha, if_pos h256, e1, e2, e3, hk, if_pos he, if_neg hn0]
        · refine ⟨Int.tmod (t / 31 + rd c a) n, a + 1, t, ?_, hS, fun h => by omega, fun h => tmod_range (by omega) h⟩
          simp only [spec_l01Next.f, if_neg hn, if_pos hlt, if_pos ha, if_pos h256, e1, e2, e3, e4, hk, hx, hx1, if_neg he, if_neg hn0]
      · refine ⟨Int.tmod (t / 31 + rd c a) n, a + 1, t, ?_, hS, fun h => by omega, fun h => tmod_range (by omega) h⟩
        simp only [spec_l01Next.f, if_neg hn, if_pos hlt, if_pos ha, if_neg h256, e1, e3, e4, hk, hx, hx1, if_neg hn0]
    · refine ⟨Int.tmod (t / 31) n, a, t, ?_, ⟨hb, hl, ha, ha1, k0, k1⟩, fun h => by omega, fun h => tmod_range (by omega) h⟩
      simp only [spec_l01Next.f, if_neg hn, if_neg hlt, hk, hx, hx1, if_neg hn0]
theorem draw_pick {c : List Int} {a s : Int} (h : Src c a s) (l : List Int) (h0 : 0 < l.length) (h1 : l.length ≤ 1000) : ∃ v a' s', spec_l01Pick.f c a s l = some (v, a', s') ∧ Src c a' s' ∧ v ∈ l := by
  obtain ⟨v, a', s', e, hS, hv0, hv1⟩ := draw_next h (l.length : Int)
  have hv : 0 ≤ v ∧ v < (l.length : Int) := by
    by_cases hn : (l.length : Int) ≤ 1
    · have := hv0 hn; omega
    · exact hv1 (by omega)
  refine ⟨rd l v, a', s', by simp only [spec_l01Pick.f, e, Option.bind_some, if_pos hv.1, if_pos hv.2], hS, ?_⟩
  have : v.toNat < l.length := by omega
  unfold rd
  rw [List.getD_eq_getElem?_getD, List.getElem?_eq_getElem this]
  exact List.getElem_mem this
theorem draw_from (c : List Int) (hb : ∀ x ∈ c, (Lit.int .u8 x).wf = true) (hl : c.length ≤ 4096) : ∃ s, Ev (fun k => spec_l01From.f k c) (c, 0, s) ∧ Src c 0 s := by
  have hb' : ∀ x ∈ c, 0 ≤ x ∧ x ≤ 255 := by
    intro x hx
    have := hb x hx
    simp only [Lit.wf, IntKind.min, IntKind.max, IntKind.signed, IntKind.bits, Bool.and_eq_true, decide_eq_true_eq] at this
    simp at this
    omega
  have H := loop_list c (fun p t => ∀ s, 0 ≤ s → s < 2147483647 → ∃ s', Ev (fun k => spec_l01From.l0 k c (p.length : Int) c 0 s) (c, 0, s') ∧ 0 ≤ s' ∧ s' < 2147483647) ?_ ?_ 88007 (by omega) (by omega)
  · obtain ⟨s', h, h0, h1⟩ := H
    exact ⟨s', h, hb', hl, by omega, by omega, h0, h1⟩
  · intro s h0 h1
    refine ⟨s, Ev.step (fun k => by rw [spec_l01From.l0]) ?_, h0, h1⟩
    simp only [if_neg (nlt_self c)]
    exact Ev.now _
  · intro p x t he ih s h0 h1
    by_cases h64 : (p.length : Int) < 64
    · have hx : rd c (p.length : Int) = x := mid_get he 0
      obtain ⟨b0, b1⟩ := hb' x (by rw [he]; simp)
      have e : wrap64 (wrap64 (s * 71) + wrap64 x) = s * 71 + x := by rw [w64 (x := s * 71) (by omega) (by omega), w64 (x := x) (by omega) (by omega), w64 (by omega) (by omega)]
      obtain ⟨k0, k1⟩ := tmod_range (x := s * 71 + x) (n := 2147483647) (by omega) (by omega)
      obtain ⟨s', h, g0, g1⟩ := ih (Int.tmod (s * 71 + x) 2147483647) k0 k1
      refine ⟨s', Ev.step (fun k => by rw [spec_l01From.l0]) ?_, g0, g1⟩
      simp only [if_pos (mid_lt he), if_pos h64, if_pos (nat_nn p.length), hx, e, mid_next he (by omega)]
      exact h
    · refine ⟨s, Ev.step (fun k => by rw [spec_l01From.l0]) ?_, h0, h1⟩
      simp only [if_pos (mid_lt he), if_neg h64]
      exact Ev.now _
theorem draw_step {c : List Int} {a s : Int} (h : Src c a s) : ∃ x y z a' s', spec_l19DrawStep.f c a s = some (x, y, z, a', s') ∧ Src c a' s' := by
  obtain ⟨v1, a1, s1, e1, h1, _⟩ := draw_next h 90
  obtain ⟨v2, a2, s2, e2, h2, _⟩ := draw_pick h1 [60, 5000] (by decide) (by decide)
  obtain ⟨v3, a3, s3, e3, h3, _⟩ := draw_next h2 v2
  obtain ⟨v4, a4, s4, e4, h4, _⟩ := draw_next h3 60
  obtain ⟨v5, a5, s5, e5, h5, _⟩ := draw_next h4 60
  simp only [spec_l19DrawStep.f, e1, e2, e3, e4, e5, Option.bind_some]
  by_cases g0 : v5 = 0
  · obtain ⟨v6, a6, s6, e6, h6, _⟩ := draw_pick h5 [-1, 10000, 10001] (by decide) (by decide)
    simp only [if_pos g0, e6, Option.bind_some]
    exact ⟨_, _, _, _, _, rfl, h6⟩
  · by_cases g1 : v5 = 1
    · obtain ⟨v6, a6, s6, e6, h6, _⟩ := draw_pick h5 [0, 1, 100000, 100001] (by decide) (by decide)
      simp only [if_neg g0, if_pos g1, e6, Option.bind_some]
      exact ⟨_, _, _, _, _, rfl, h6⟩
    · by_cases g2 : v5 = 2
      · obtain ⟨v6, a6, s6, e6, h6, _⟩ := draw_pick h5 [-1, 0, 500, 501] (by decide) (by decide)
        simp only [if_neg g0, if_neg g1, if_pos g2, e6, Option.bind_some]
        exact ⟨_, _, _, _, _, rfl, h6⟩
      · simp only [if_neg g0, if_neg g1, if_neg g2]
        exact ⟨_, _, _, _, _, rfl, h5⟩
theorem draw_route_l1 {c : List Int} : ∀ (d : Nat) (l : List S123) (a s : Int), l.length + d = 11 → Src c a s → ∃ r a' s', Ev (fun k => spec_l19DrawRoute.l1 k l c a s) (r, a', s') ∧ Src c a' s' ∧ r.length ≤ 11 := by
  intro d
  induction d with
  | zero =>
    intro l a s hl h
    obtain ⟨v1, a1, s1, e1, h1, _, hv⟩ := draw_next h 2
    obtain ⟨v0, v1'⟩ := hv (by omega)
    refine ⟨l.take (10 + v1).toNat, a1, s1, Ev.step (fun k => by rw [spec_l19DrawRoute.l1]) ?_, h1, by rw [List.length_take]; omega⟩
    simp only [if_neg (show ¬ ((l.length : Int) < 11) by omega), e1, Option.bind_some, w64 (x := 10 + v1) (by omega) (by omega), if_pos (show 0 ≤ 10 + v1 by omega), if_pos (show 10 + v1 ≤ (l.length : Int) by omega)]
    exact Ev.now _
  | succ d ih =>
    intro l a s hl h
    obtain ⟨r, a', s', hr, h', hl'⟩ := ih (l ++ [⟨0, 7, 0⟩]) a s (by simp; omega) h
    refine ⟨r, a', s', Ev.step (fun k => by rw [spec_l19DrawRoute.l1]) ?_, h', hl'⟩
    simp only [if_pos (show ((l.length : Int) < 11) by omega), if_pos (show l.length < 5864062014805 by omega)]
    exact hr
theorem draw_route_l0 {c : List Int} : ∀ (d : Nat) (l : List S123) (n a s : Int), n ≤ d → l.length + d ≤ 5 → Src c a s → ∃ r a' s', Ev (fun k => spec_l19DrawRoute.l0 k l n c a s) (r, a', s') ∧ Src c a' s' ∧ r.length ≤ 11 := by
  intro d
  induction d with
  | zero =>
    intro l n a s hn hl h
    obtain ⟨v1, a1, s1, e1, h1, _⟩ := draw_next h 60
    by_cases g0 : v1 = 0
    · refine ⟨[], a1, s1, Ev.step (fun k => by rw [spec_l19DrawRoute.l0]) ?_, h1, by simp⟩
      simp only [if_neg (show ¬ n > 0 by omega), e1, Option.bind_some, if_pos g0]
      exact Ev.now _
    · by_cases g1 : v1 = 1
      · obtain ⟨r, a', s', hr, h', hl'⟩ := draw_route_l1 (c := c) (11 - l.length) l a1 s1 (by omega) h1
        refine ⟨r, a', s', Ev.step (fun k => by rw [spec_l19DrawRoute.l0]) ?_, h', hl'⟩
        simp only [if_neg (show ¬ n > 0 by omega), e1, Option.bind_some, if_neg g0, if_pos g1]
        exact hr
      · refine ⟨l, a1, s1, Ev.step (fun k => by rw [spec_l19DrawRoute.l0]) ?_, h1, by omega⟩
        simp only [if_neg (show ¬ n > 0 by omega), e1, Option.bind_some, if_neg g0, if_neg g1]
        exact Ev.now _
  | succ d ih =>
    intro l n a s hn hl h
    by_cases hp : n > 0
    · obtain ⟨x, y, z, a1, s1, e1, h1⟩ := draw_step h
      obtain ⟨r, a', s', hr, h', hl'⟩ := ih (l ++ [⟨x, y, z⟩]) (n - 1) a1 s1 (by omega) (by simp; omega) h1
      refine ⟨r, a', s', Ev.step (fun k => by rw [spec_l19DrawRoute.l0]) ?_, h', hl'⟩
      simp only [if_pos hp, e1, Option.bind_some, if_pos (show l.length < 5864062014805 by omega)]
      by_cases hw : wrap64 (n - 1) = n - 1
      · rw [hw]; exact hr
      · exact absurd (w64 (by omega) (by omega)) hw
    · exact ih l n a s (by omega) (by omega) h
theorem draw_route {c : List Int} {a s : Int} (h : Src c a s) : ∃ r a' s', Ev (fun k => spec_l19DrawRoute.f k c a s) (r, a', s') ∧ Src c a' s' ∧ r.length ≤ 11 := by
  obtain ⟨v1, a1, s1, e1, h1, _, hv⟩ := draw_next h 5
  obtain ⟨k0, k1⟩ := hv (by omega)
  simp only [spec_l19DrawRoute.f, e1, Option.bind_some, w64 (x := 1 + v1) (by omega) (by omega)]
  exact draw_route_l0 5 [] (1 + v1) a1 s1 (by omega) (by simp) h1
theorem draw_items {c : List Int} {a s : Int} (h : Src c a s) : ∃ v a' s', spec_l19DrawItems.f c a s = some (v, a', s') ∧ Src c a' s' ∧ -1 ≤ v ∧ v ≤ 1000001 := by
  obtain ⟨v1, a1, s1, e1, h1, _⟩ := draw_next h 24
  simp only [spec_l19DrawItems.f, e1, Option.bind_some]
  by_cases g0 : v1 = 0
  · obtain ⟨v2, a2, s2, e2, h2, hm⟩ := draw_pick h1 [-1, 0, 1000000, 1000001] (by decide) (by decide)
    simp only [if_pos g0, e2, Option.bind_some]
    refine ⟨_, _, _, rfl, h2, ?_⟩
    simp at hm; omega
  · obtain ⟨v2, a2, s2, e2, h2, hm⟩ := draw_pick h1 [20, 3000, 20000] (by decide) (by decide)
    obtain ⟨v3, a3, s3, e3, h3, hv0, hv1⟩ := draw_next h2 v2
    simp only [if_neg g0, e2, e3, Option.bind_some]
    refine ⟨_, _, _, rfl, h3, ?_⟩
    simp at hm
    have := hv1 (by omega)
    omega
theorem ceil_eq {n k : Int} (hk : 1 ≤ k) : (n + k - 1) / k = n / k + (if 0 < n % k then 1 else 0) := by
  have h1 := Int.emod_nonneg n (show k ≠ 0 by omega)
  have h2 := Int.emod_lt_of_pos n (show 0 < k by omega)
  have h3 := Int.mul_ediv_add_emod n k
  have e : n + k - 1 = (n % k + k - 1) + k * (n / k) := by omega
  rw [e, Int.add_mul_ediv_left _ _ (show k ≠ 0 by omega)]
  by_cases h : 0 < n % k
  · rw [if_pos h]
    have : (n % k + k - 1) / k = 1 := by
      rw [show n % k + k - 1 = (n % k - 1) + k * 1 by omega, Int.add_mul_ediv_left _ _ (show k ≠ 0 by omega), Int.ediv_eq_zero_of_lt (by omega) (by omega)]
      rfl
    omega
  · rw [if_neg h]
    have : (n % k + k - 1) / k = 0 := Int.ediv_eq_zero_of_lt (by omega) (by omega)
    omega
theorem quo_eq {a b : Int} (h0 : 0 ≤ a) (h1 : a ≤ 4000000000000000000) (hb : 1 ≤ b) (hb1 : b ≤ 4000000000000000000) : quo a b = (a + b - 1) / b := by
  unfold quo
  rw [w64 (x := a + b) (by omega) (by omega), w64 (x := a + b - 1) (by omega) (by omega), Int.tdiv_eq_ediv_of_nonneg (by omega)]
  have := Int.ediv_le_self (a := a + b - 1) b (by omega)
  have := Int.ediv_nonneg (a := a + b - 1) (b := b) (by omega) (by omega)
  rw [w64 (by omega) (by omega)]
/-- What a rounded up division is: the least number whose product is enough. -/
theorem ceil_spec {a b : Int} (hb : 1 ≤ b) : a ≤ ((a + b - 1) / b) * b ∧ ((a + b - 1) / b) * b < a + b := by
  have h1 := Int.mul_ediv_add_emod (a + b - 1) b
  have h2 := Int.emod_nonneg (a + b - 1) (show b ≠ 0 by omega)
  have h3 := Int.emod_lt_of_pos (a + b - 1) (show 0 < b by omega)
  rw [Int.mul_comm]
  constructor <;> omega
theorem ceil_le {a b q : Int} (hb : 1 ≤ b) (h : a ≤ q * b) : (a + b - 1) / b ≤ q := by
  obtain ⟨_, h2⟩ := ceil_spec (a := a) hb
  apply Int.le_of_not_gt
  intro hc
  have := Int.mul_le_mul_of_nonneg_right (show q + 1 ≤ (a + b - 1) / b by omega) (show 0 ≤ b by omega)
  rw [Int.add_mul, Int.one_mul] at this
  omega
theorem lt_ceil {a b q : Int} (hb : 1 ≤ b) (h : q * b < a) : q < (a + b - 1) / b := by
  obtain ⟨h1, _⟩ := ceil_spec (a := a) hb
  apply Int.lt_of_not_ge
  intro hc
  have := Int.mul_le_mul_of_nonneg_right hc (show 0 ≤ b by omega)
  omega
theorem ceil_mono {a a' b : Int} (hb : 1 ≤ b) (h : a ≤ a') : (a + b - 1) / b ≤ (a' + b - 1) / b := Int.ediv_le_ediv (by omega) (by omega)
theorem ceil_anti {a b b' : Int} (ha : 0 ≤ a) (hb : 1 ≤ b) (h : b ≤ b') : (a + b' - 1) / b' ≤ (a + b - 1) / b := by
  apply ceil_le (by omega)
  obtain ⟨h1, _⟩ := ceil_spec (a := a) hb
  have h0 := Int.ediv_nonneg (a := a + b - 1) (b := b) (by omega) (by omega)
  have := Int.mul_le_mul_of_nonneg_left h h0
  omega
theorem stepB_range {a b c : Int} (h : stepB a b c = true) : 0 ≤ a ∧ a ≤ 10000 ∧ 1 ≤ b ∧ b ≤ 100000 ∧ 0 ≤ c ∧ c ≤ 500 := by
  simp only [stepB, Bool.and_eq_true, inR_iff] at h
  omega
theorem minB_eq {a b n : Int} (ha : 0 ≤ a) (ha1 : a ≤ 10000) (hb : 1 ≤ b) (hb1 : b ≤ 100000) (hn : 0 ≤ n) (hn1 : n ≤ 1000000) : minB a b n = a + (60 * n + b - 1) / b ∧ 0 ≤ (60 * n + b - 1) / b ∧ (60 * n + b - 1) / b ≤ 60000000 := by
  have h0 := Int.ediv_nonneg (a := 60 * n + b - 1) (b := b) (by omega) (by omega)
  have h1 : (60 * n + b - 1) / b ≤ 60 * n := ceil_le hb (by
    have := Int.mul_le_mul_of_nonneg_left hb (show 0 ≤ 60 * n by omega)
    omega)
  refine ⟨?_, h0, by omega⟩
  unfold minB
  rw [w64 (x := 60 * n) (by omega) (by omega), quo_eq (by omega) (by omega) hb (by omega), w64 (by omega) (by omega)]
theorem likeInts (l : List Int) (h : l.length ≤ 9000000000000000000) : Ev (fun k => laws_likeInts.f k l l) true := by
  simp only [laws_likeInts.f, if_true]
  refine loop_list l (fun p s => Ev (fun k => laws_likeInts.l0 k l l (p.length : Int)) true) ?_ ?_
  · refine Ev.step (fun k => by rw [laws_likeInts.l0]) ?_
    simp only [if_neg (nlt_self l)]
    exact Ev.now _
  · intro p x s he ih
    refine Ev.step (fun k => by rw [laws_likeInts.l0]) ?_
    simp only [if_pos (mid_lt he), if_pos (nat_nn p.length), if_true, mid_next he (by omega)]
    exact ih
theorem rd_lt {l : List Int} {i : Nat} (h : i < l.length) : rd l (i : Int) = l[i] := by
  unfold rd
  rw [List.getD_eq_getElem?_getD]
  simp [h]
theorem rd_app (a : List Int) (x : Int) {i : Nat} (h : i < a.length) : rd (a ++ [x]) (i : Int) = rd a (i : Int) := by
  rw [rd_lt (by simp; omega), rd_lt h, List.getElem_append_left h]
theorem rd_last (a : List Int) (x : Int) : rd (a ++ [x]) (a.length : Int) = x := by
  rw [rd_lt (by simp)]
  simp
/-- Where every step spoils at most half: what is passed on falls, and never below nothing. -/
theorem pass_range {x : S123} (hx : stepB x.f0 x.f1 x.f2 = true) {n : Int} (h0 : 0 ≤ n) (h1 : n ≤ 1000001) : 0 ≤ passStep x n ∧ passStep x n ≤ n := by
  obtain ⟨_, _, _, _, c0, c1⟩ := stepB_range hx
  have m0 := Int.mul_nonneg h0 c0
  have m1 := Int.mul_le_mul_of_nonneg_left c1 h0
  unfold passStep
  rw [w64 (x := n * x.f2) (by omega) (by omega), quo_eq m0 (by omega) (by omega) (by omega)]
  have a0 := Int.ediv_nonneg (a := n * x.f2 + 1000 - 1) (b := 1000) (by omega) (by omega)
  have a1 : (n * x.f2 + 1000 - 1) / 1000 ≤ n := ceil_le (by omega) (by omega)
  rw [w64 (by omega) (by omega)]
  omega
theorem pass_mono {x : S123} (hx : stepB x.f0 x.f1 x.f2 = true) {n m : Int} (h0 : 0 ≤ n) (hm : n ≤ m) (h1 : m ≤ 1000001) : passStep x n ≤ passStep x m := by
  obtain ⟨_, _, _, _, c0, c1⟩ := stepB_range hx
  have m0 := Int.mul_nonneg h0 c0
  have m1 := Int.mul_le_mul_of_nonneg_left c1 h0
  have k0 := Int.mul_nonneg (show 0 ≤ m by omega) c0
  have k1 := Int.mul_le_mul_of_nonneg_left c1 (show 0 ≤ m by omega)
  have d1 := Int.mul_le_mul_of_nonneg_left c1 (show 0 ≤ m - n by omega)
  rw [Int.sub_mul] at d1
  unfold passStep
  rw [w64 (x := n * x.f2) (by omega) (by omega), quo_eq m0 (by omega) (by omega) (by omega), w64 (x := m * x.f2) (by omega) (by omega), quo_eq k0 (by omega) (by omega) (by omega)]
  have a0 := Int.ediv_nonneg (a := n * x.f2 + 1000 - 1) (b := 1000) (by omega) (by omega)
  have a1 : (n * x.f2 + 1000 - 1) / 1000 ≤ n := ceil_le (by omega) (by omega)
  have b0 := Int.ediv_nonneg (a := m * x.f2 + 1000 - 1) (b := 1000) (by omega) (by omega)
  have b1 : (m * x.f2 + 1000 - 1) / 1000 ≤ m := ceil_le (by omega) (by omega)
  obtain ⟨a2, _⟩ := ceil_spec (a := n * x.f2) (b := 1000) (by omega)
  have b2 : (m * x.f2 + 1000 - 1) / 1000 ≤ (n * x.f2 + 1000 - 1) / 1000 + (m - n) := ceil_le (by omega) (by omega)
  rw [w64 (by omega) (by omega), w64 (by omega) (by omega)]
  omega
theorem passF_falls : ∀ (l : List S123) (n : Int), (∀ x ∈ l, stepB x.f0 x.f1 x.f2 = true) → 0 ≤ n → n ≤ 1000001 → ∀ i : Nat, i < l.length → 0 ≤ rd (passedB l n) ((i : Int) + 1) ∧ rd (passedB l n) ((i : Int) + 1) ≤ rd (passedB l n) (i : Int) ∧ rd (passedB l n) (i : Int) ≤ n := by
  intro l
  induction l with
  | nil => intro n _ _ _ i hi; simp at hi
  | cons x l ih =>
    intro n hx h0 h1 i hi
    obtain ⟨p0, p1⟩ := pass_range (hx x (by simp)) h0 h1
    have e1 : ∀ j : Nat, rd (passedB (x :: l) n) ((j : Int) + 1) = rd (passedB l (passStep x n)) (j : Int) := by
      intro j
      unfold rd passedB
      rw [show ((j : Int) + 1).toNat = j + 1 by omega, Int.toNat_natCast]
      simp [passF]
    have e0 : rd (passedB (x :: l) n) ((0 : Nat) : Int) = n := by simp [rd, passedB]
    have z0 : rd (passedB l (passStep x n)) ((0 : Nat) : Int) = passStep x n := by simp [rd, passedB]
    rw [e1]
    cases i with
    | zero =>
      rw [e0, z0]
      omega
    | succ i =>
      obtain ⟨q0, q1, q2⟩ := ih (passStep x n) (fun y hy => hx y (by simp [hy])) p0 (by omega) i (by simpa using hi)
      rw [show ((i + 1 : Nat) : Int) = (i : Int) + 1 by omega, e1]
      omega
theorem out_mono : ∀ (l : List S123) (n m : Int), (∀ x ∈ l, stepB x.f0 x.f1 x.f2 = true) → 0 ≤ n → n ≤ m → m ≤ 1000001 → outB l n ≤ outB l m := by
  intro l
  induction l with
  | nil => intro n m _ _ h _; simpa [outB, passedB, rd] using h
  | cons x l ih =>
    intro n m hx h0 h h1
    obtain ⟨p0, p1⟩ := pass_range (hx x (by simp)) h0 (by omega)
    obtain ⟨q0, q1⟩ := pass_range (hx x (by simp)) (n := m) (by omega) h1
    have e : ∀ n, outB (x :: l) n = outB l (passStep x n) := by
      intro n
      unfold outB rd passedB
      simp [passF]
    rw [e, e]
    exact ih _ _ (fun y hy => hx y (by simp [hy])) p0 (pass_mono (hx x (by simp)) h0 h h1) (by omega)
theorem spoil_told (l : List S123) (n : Int) (h : l.length ≤ 1048576) : ∃ r, Ev (fun k => spec_SpoiledBy.l0 k l (passedB l n) [] 0) (r, 0) ∧ Ev (fun k => impl_spoiled.f k l n) r ∧ r.length = l.length ∧ ∀ i : Nat, i < l.length → rd r (i : Int) = wrap64 (rd (passedB l n) (i : Int) - rd (passedB l n) ((i : Int) + 1)) := by
  have ht := passedB_length l n
  obtain ⟨r, h1, h2, h3, h4⟩ : ∃ r, Ev (fun k => spec_SpoiledBy.l0 k l (passedB l n) [] 0) (r, 0) ∧ Ev (fun k => impl_spoiled.l0 k (passedB l n) [] (l.length : Int) 0) r ∧ r.length = l.length ∧ ∀ i : Nat, i < l.length → rd r (i : Int) = wrap64 (rd (passedB l n) (i : Int) - rd (passedB l n) ((i : Int) + 1)) := by
    refine loop_list l (fun p s => ∀ acc : List Int, acc.length = p.length → (∀ i : Nat, i < p.length → rd acc (i : Int) = wrap64 (rd (passedB l n) (i : Int) - rd (passedB l n) ((i : Int) + 1))) → ∃ r, Ev (fun k => spec_SpoiledBy.l0 k l (passedB l n) acc (p.length : Int)) (r, 0) ∧ Ev (fun k => impl_spoiled.l0 k (passedB l n) acc (l.length : Int) (p.length : Int)) r ∧ r.length = l.length ∧ ∀ i : Nat, i < l.length → rd r (i : Int) = wrap64 (rd (passedB l n) (i : Int) - rd (passedB l n) ((i : Int) + 1))) ?_ ?_ [] rfl (fun i hi => by simp at hi)
    · intro acc ha hr
      refine ⟨acc, Ev.step (fun k => by rw [spec_SpoiledBy.l0]) ?_, Ev.step (fun k => by rw [impl_spoiled.l0]) ?_, ha, hr⟩ <;> simp only [if_neg (nlt_self l)] <;> exact Ev.now _
    · intro p x s he ih acc ha hr
      have hp := mid_lt he
      have e1 : wrap64 ((p.length : Int) + 1) = (p.length : Int) + 1 := w64 (by omega) (by omega)
      obtain ⟨r, h1, h2, h3, h4⟩ := ih (acc ++ [wrap64 (rd (passedB l n) (p.length : Int) - rd (passedB l n) ((p.length : Int) + 1))]) (by simp [ha]) (by
        intro i hi
        by_cases hi' : i < p.length
        · rw [rd_app _ _ (by omega)]; exact hr i hi'
        · have : i = p.length := by simp at hi; omega
          subst this
          rw [← ha, rd_last])
      rw [show ((p ++ [x]).length : Int) = (p.length : Int) + 1 by simp] at h1 h2
      refine ⟨r, Ev.step (fun k => by rw [spec_SpoiledBy.l0]) ?_, Ev.step (fun k => by rw [impl_spoiled.l0]) ?_, h3, h4⟩
      · simp only [if_pos hp, if_pos (nat_nn p.length), e1, if_pos (show (p.length : Int) < ((passedB l n).length : Int) by omega), if_pos (show (0 : Int) ≤ (p.length : Int) + 1 by omega), if_pos (show (p.length : Int) + 1 < ((passedB l n).length : Int) by omega), if_pos (show acc.length < 17592186044416 by omega)]
        exact h1
      · simp only [if_pos hp, if_pos (nat_nn p.length), e1, if_pos (show (p.length : Int) < ((passedB l n).length : Int) by omega), if_pos (show (0 : Int) ≤ (p.length : Int) + 1 by omega), if_pos (show (p.length : Int) + 1 < ((passedB l n).length : Int) by omega), if_pos (show acc.length < 17592186044416 by omega)]
        exact h2
  refine ⟨r, h1, ?_, h3, h4⟩
  simp only [impl_spoiled.f]
  exact Ev.bind (impl_passed l n h) h2
theorem worst_told (t : List Int) (h : t.length ≤ 1048576) (h0 : 0 < t.length) : ∃ b : Nat, Ev (fun k => spec_WorstStep.l0 k t 0 0) ((b : Int), 0) ∧ Ev (fun k => impl_WorstStep.l0 k 0 t t (t.length : Int) 0) ((b : Int), 0) ∧ b < t.length ∧ ∀ i : Nat, i < t.length → rd t (i : Int) ≤ rd t (b : Int) := by
  refine loop_list t (fun p s => ∀ b : Nat, b < t.length → (∀ i : Nat, i < p.length → rd t (i : Int) ≤ rd t (b : Int)) → ∃ b' : Nat, Ev (fun k => spec_WorstStep.l0 k t (b : Int) (p.length : Int)) ((b' : Int), 0) ∧ Ev (fun k => impl_WorstStep.l0 k (b : Int) t t (t.length : Int) (p.length : Int)) ((b' : Int), 0) ∧ b' < t.length ∧ ∀ i : Nat, i < t.length → rd t (i : Int) ≤ rd t (b' : Int)) ?_ ?_ 0 h0 (fun i hi => by simp at hi)
  · intro b hb hm
    refine ⟨b, Ev.step (fun k => by rw [spec_WorstStep.l0]) ?_, Ev.step (fun k => by rw [impl_WorstStep.l0]) ?_, hb, hm⟩ <;> simp only [if_neg (nlt_self t)] <;> exact Ev.now _
  · intro p x s he ih b hb hm
    have hp := mid_lt he
    by_cases hg : rd t (p.length : Int) > rd t (b : Int)
    · obtain ⟨b', h1, h2, h3, h4⟩ := ih p.length (by omega) (by
        intro i hi
        by_cases hi' : i < p.length
        · have := hm i hi'; omega
        · have : i = p.length := by simp at hi; omega
          subst this; exact Int.le_refl _)
      refine ⟨b', Ev.step (fun k => by rw [spec_WorstStep.l0]) ?_, Ev.step (fun k => by rw [impl_WorstStep.l0]) ?_, h3, h4⟩ <;> simp only [if_pos hp, if_pos (nat_nn p.length), if_pos (nat_nn b), if_pos (show (b : Int) < (t.length : Int) by omega), if_pos hg, mid_next he (by omega)]
      · exact h1
      · exact h2
    · obtain ⟨b', h1, h2, h3, h4⟩ := ih b hb (by
        intro i hi
        by_cases hi' : i < p.length
        · exact hm i hi'
        · have : i = p.length := by simp at hi; omega
          subst this; omega)
      refine ⟨b', Ev.step (fun k => by rw [spec_WorstStep.l0]) ?_, Ev.step (fun k => by rw [impl_WorstStep.l0]) ?_, h3, h4⟩ <;> simp only [if_pos hp, if_pos (nat_nn p.length), if_pos (nat_nn b), if_pos (show (b : Int) < (t.length : Int) by omega), if_neg hg, mid_next he (by omega)]
      · exact h1
      · exact h2
theorem minB_mono {a b c n m : Int} (hs : stepB a b c = true) (h0 : 0 ≤ n) (h : n ≤ m) (h1 : m ≤ 1000000) : 0 ≤ minB a b n ∧ minB a b n ≤ minB a b m ∧ minB a b m ≤ 70000000 := by
  obtain ⟨a0, a1, b0, b1, _⟩ := stepB_range hs
  obtain ⟨e1, q0, q1⟩ := minB_eq a0 a1 b0 b1 h0 (show n ≤ 1000000 by omega)
  obtain ⟨e2, _, q2⟩ := minB_eq a0 a1 b0 b1 (show 0 ≤ m by omega) h1
  have := ceil_mono (a := 60 * n) (a' := 60 * m) b0 (by omega)
  omega
/-- The time with the waste is at most the time without it. -/
theorem times_told (l : List S123) (n : Int) (h : l.length ≤ 1048576) (hx : ∀ x ∈ l, stepB x.f0 x.f1 x.f2 = true) (hn0 : 0 ≤ n) (hn1 : n ≤ 1000000) :
    ∃ r q, Ev (fun k => spec_TimeWithWaste.l0 k l (passedB l n) 0 0) (r, 0) ∧ Ev (fun k => impl_TimeWithWaste.l0 k 0 (passedB l n) l (l.length : Int) 0) (r, 0) ∧ Ev (fun k => impl_RouteTime.l0 k n 0 l (l.length : Int) 0) (q, 0) ∧ r ≤ q := by
  have ht := passedB_length l n
  refine loop_list l (fun p s => ∀ a b, 0 ≤ a → a ≤ b → b ≤ 70000000 * (p.length : Int) → ∃ r q, Ev (fun k => spec_TimeWithWaste.l0 k l (passedB l n) a (p.length : Int)) (r, 0) ∧ Ev (fun k => impl_TimeWithWaste.l0 k a (passedB l n) l (l.length : Int) (p.length : Int)) (r, 0) ∧ Ev (fun k => impl_RouteTime.l0 k n b l (l.length : Int) (p.length : Int)) (q, 0) ∧ r ≤ q) ?_ ?_ 0 0 (by omega) (by omega) (by simp)
  · intro a b h0 h1 h2
    refine ⟨a, b, Ev.step (fun k => by rw [spec_TimeWithWaste.l0]) ?_, Ev.step (fun k => by rw [impl_TimeWithWaste.l0]) ?_, Ev.step (fun k => by rw [impl_RouteTime.l0]) ?_, h1⟩ <;> simp only [if_neg (nlt_self l)] <;> exact Ev.now _
  · intro p x s he ih a b h0 h1 h2
    have hs := hx x (by rw [he]; simp)
    have hp := mid_lt he
    obtain ⟨f0, f1, f2⟩ := passF_falls l n hx hn0 (by omega) p.length (by omega)
    obtain ⟨k0, k1, k2⟩ := minB_mono hs (n := rd (passedB l n) (p.length : Int)) (m := n) (by omega) f2 hn1
    have ea : wrap64 (a + minB x.f0 x.f1 (rd (passedB l n) (p.length : Int))) = a + minB x.f0 x.f1 (rd (passedB l n) (p.length : Int)) := w64 (by omega) (by omega)
    have eb : wrap64 (b + minB x.f0 x.f1 n) = b + minB x.f0 x.f1 n := w64 (by omega) (by omega)
    obtain ⟨r, q, g1, g2, g3, g4⟩ := ih (a + minB x.f0 x.f1 (rd (passedB l n) (p.length : Int))) (b + minB x.f0 x.f1 n) (by omega) (by omega) (by simp; omega)
    refine ⟨r, q, Ev.step (fun k => by rw [spec_TimeWithWaste.l0]) ?_, Ev.step (fun k => by rw [impl_TimeWithWaste.l0]) ?_, Ev.step (fun k => by rw [impl_RouteTime.l0]) ?_, g4⟩
    · simp only [if_pos hp, if_pos (nat_nn p.length), if_pos (show (p.length : Int) < ((passedB l n).length : Int) by omega), rd_T123, mid_get he, l19Time _ _ _ _ hs, Option.bind_some, mid_next he (by omega), ea]
      exact g1
    · simp only [if_pos hp, if_pos (nat_nn p.length), if_pos (show (p.length : Int) < ((passedB l n).length : Int) by omega), rd_T123, mid_get he, minutesOf _ _ _ _ hs, Option.bind_some, mid_next he (by omega), ea]
      exact g2
    · simp only [if_pos hp, if_pos (nat_nn p.length), rd_T123, mid_get he, minutesOf _ _ _ _ hs, Option.bind_some, mid_next he (by omega), eb]
      exact g3
/-- A sum of differences. -/
theorem sum_told (t : List Int) (P : Nat → Int) (h : t.length ≤ 1048576) (hP : ∀ i : Nat, i ≤ t.length → 0 ≤ P i ∧ P i ≤ 1000001) (ht : ∀ i : Nat, i < t.length → rd t (i : Int) = wrap64 (P i - P (i + 1))) : Ev (fun k => laws_sum.f k t) (P 0 - P t.length) := by
  simp only [laws_sum.f]
  have := loop_list t (fun p s => Ev (fun k => laws_sum.l0 k t (P 0 - P p.length) (p.length : Int)) (P 0 - P t.length)) ?_ ?_
  · simpa using this
  · refine Ev.step (fun k => by rw [laws_sum.l0]) ?_
    simp only [if_neg (nlt_self t)]
    exact Ev.now _
  · intro p x s he ih
    have hp := mid_lt he
    obtain ⟨a0, a1⟩ := hP 0 (by omega)
    obtain ⟨b0, b1⟩ := hP p.length (by omega)
    obtain ⟨c0, c1⟩ := hP (p.length + 1) (by omega)
    have e : wrap64 (P 0 - P p.length + rd t (p.length : Int)) = P 0 - P (p ++ [x]).length := by
      rw [ht p.length (by omega), w64 (x := P p.length - P (p.length + 1)) (by omega) (by omega), w64 (by omega) (by omega)]
      simp
      omega
    refine Ev.step (fun k => by rw [laws_sum.l0]) ?_
    simp only [if_pos hp, if_pos (nat_nn p.length), e, mid_next he (by omega)]
    exact ih
theorem yield_told (l : List S123) (n : Int) (h : l.length ≤ 1048576) : ∃ r, Ev (fun k => spec_YieldOf.f k l n) r ∧ Ev (fun k => impl_YieldOf.f k l n) r ∧ (r.2 = 0 → 0 ≤ r.1 ∧ r.1 ≤ 1000) := by
  simp only [spec_YieldOf.f, impl_YieldOf.f, l19Code, Option.bind_some]
  by_cases hc : codeOf (routeB l) n = 0
  · by_cases hn : n < 1
    · refine ⟨(0, 2), Ev.bind (spec_IsRoute l h) ?_, Ev.bind (checkRoute l n h) ?_, fun h => by simp at h⟩
      · simp only [hc, if_true, decide_eq_true hn]
        refine Ev.step (fun k => by rw [spec_YieldOf.j0]) ?_
        simp only [if_true, show ¬ ((2 : Int) = 0) by omega, if_false]
        exact Ev.now _
      · simp only [hc, if_true, if_pos hn]
        exact Ev.now _
    · refine ⟨(wrap64 (Int.tdiv (wrap64 (1000 * outB l n)) n), 0), Ev.bind (spec_IsRoute l h) ?_, Ev.bind (checkRoute l n h) ?_, fun _ => ?_⟩
      · simp only [hc, if_true, decide_eq_false hn]
        refine Ev.step (fun k => by rw [spec_YieldOf.j0]) ?_
        simp only [Bool.false_eq_true, if_false, if_true]
        refine Ev.bind (spec_output l n h) ?_
        simp only [if_neg (show ¬ n = 0 by omega)]
        exact Ev.now _
      · simp only [hc, if_true, if_neg hn]
        refine Ev.bind (impl_output l n h) ?_
        simp only [if_neg (show ¬ n = 0 by omega), Int.mul_comm (outB l n) 1000]
        exact Ev.now _
      · obtain ⟨_, n0, n1⟩ := codeOf_zero hc
        obtain ⟨l1, _⟩ := route_len hc
        obtain ⟨f0, f1, f2⟩ := passF_falls l n (fun x hx => okStep_of hc hx) n0 (by omega) (l.length - 1) (by omega)
        rw [show ((l.length - 1 : Nat) : Int) + 1 = (l.length : Int) by omega] at f0 f1
        have o0 : 0 ≤ outB l n := f0
        have o1 : outB l n ≤ n := by unfold outB; omega
        have d0 := Int.ediv_nonneg (a := 1000 * outB l n) (b := n) (by omega) (by omega)
        have d1 : 1000 * outB l n / n ≤ 1000 := by
          have := Int.ediv_le_ediv (show 0 < n by omega) (show 1000 * outB l n ≤ 1000 * n by omega)
          rwa [Int.mul_ediv_cancel _ (show n ≠ 0 by omega)] at this
        simp only []
        rw [w64 (x := 1000 * outB l n) (by omega) (by omega), Int.tdiv_eq_ediv_of_nonneg (by omega), w64 (by omega) (by omega)]
        omega
  · refine ⟨(0, codeOf (routeB l) n), Ev.bind (spec_IsRoute l h) ?_, Ev.bind (checkRoute l n h) ?_, fun h => absurd h hc⟩
    · simp only [if_neg hc]
      refine Ev.step (fun k => by rw [spec_YieldOf.j0]) ?_
      simp only [Bool.false_eq_true, if_false, if_neg hc]
      exact Ev.now _
    · simp only [if_neg hc]
      exact Ev.now _
theorem draw_routetime (c : List Int) (hb : ∀ x ∈ c, (Lit.int .u8 x).wf = true) (hl : c.length ≤ 4096) : ∃ l n, Ev (fun k => spec_DrawRouteTime.f k c) (l, n) ∧ l.length ≤ 11 := by
  obtain ⟨s0, h0, hs0⟩ := draw_from c hb hl
  obtain ⟨l, a1, s1, h1, hs1, hl1⟩ := draw_route hs0
  obtain ⟨n, a2, s2, e2, hs2⟩ := draw_items hs1
  simp only [spec_DrawRouteTime.f]
  refine ⟨l, n, Ev.bind h0 (Ev.bind h1 ?_), hl1⟩
  simp only [e2, Option.bind_some]
  exact Ev.now _
theorem impl_OutputOf (l : List S123) (n : Int) (h : l.length ≤ 1048576) : Ev (fun k => impl_OutputOf.f k l n) (if codeOf (routeB l) n = 0 then (outB l n, 0) else (0, codeOf (routeB l) n)) := by
  simp only [impl_OutputOf.f]
  exact impl_route l n h _ (fun c => (0, c)) _ (fun hc => by rw [if_pos hc]; exact Ev.bind (impl_output l n h) (Ev.now _)) (fun hc => by rw [if_neg hc])
theorem spec_OutputOf (l : List S123) (n : Int) (h : l.length ≤ 1048576) : Ev (fun k => spec_OutputOf.f k l n) (if codeOf (routeB l) n = 0 then (outB l n, 0) else (0, codeOf (routeB l) n)) := by
  simp only [spec_OutputOf.f]
  exact spec_route l n h _ (fun c => (0, c)) _ (fun hc => by rw [if_pos hc]; exact Ev.bind (spec_output l n h) (Ev.now _)) (fun hc => by rw [if_neg hc])
theorem out_step (l : List S123) (n : Int) (t q : List Int) (o : Int) (b : Nat) (r : Int) (hq : q.length = t.length + 1) (hb : b < t.length) (ht : t.length ≤ 1048576)
    (hall : ∀ i : Nat, i < t.length → 0 ≤ rd t (i : Int) ∧ rd t (i : Int) ≤ rd t (b : Int) ∧ wrap64 (rd q (i : Int) - rd t (i : Int)) = rd q ((i : Int) + 1))
    (hend : Ev (fun k => laws_FnOutputs.l0 k l n t q q o (b : Int) r (t.length : Int)) true) : Ev (fun k => laws_FnOutputs.l0 k l n t q q o (b : Int) r 0) true := by
  refine loop_list t (fun p s => Ev (fun k => laws_FnOutputs.l0 k l n t q q o (b : Int) r (p.length : Int)) true) hend ?_
  intro p x s he ih
  have hp := mid_lt he
  obtain ⟨f0, f1, f2⟩ := hall p.length (by omega)
  have e1 : wrap64 ((p.length : Int) + 1) = (p.length : Int) + 1 := w64 (by omega) (by omega)
  rw [show ((p ++ [x]).length : Int) = (p.length : Int) + 1 by simp] at ih
  have g1 : (p.length : Int) < (q.length : Int) := by omega
  have g2 : (p.length : Int) + 1 < (q.length : Int) := by omega
  have g3 : (0 : Int) ≤ (p.length : Int) + 1 := by omega
  have g4 : (b : Int) < (t.length : Int) := by omega
  refine Ev.step (fun k => by rw [laws_FnOutputs.l0]) ?_
  simp only [if_pos hp, if_pos (nat_nn p.length), if_pos (nat_nn b), if_pos g4, if_neg (Int.not_lt.2 f1 : ¬ rd t (p.length : Int) > rd t (b : Int)), if_pos g1, e1, if_pos g3, if_pos g2, f2, if_true, if_neg (Int.not_lt.2 f0)]
  exact ih
theorem FnOutputs : laws_FnOutputs.Pure := by
  intro c hl hb
  refine Ev.rounds (g := fun k => laws_FnOutputs.f k c) ?_
  simp only [laws_FnOutputs.f, laws_big.f, Option.bind_some]
  by_cases hbig : (c.length : Int) > 4096
  · simp only [decide_eq_true hbig, if_true]
    exact Ev.now _
  simp only [decide_eq_false hbig, Bool.false_eq_true, if_false]
  obtain ⟨l, n, d1, hl1⟩ := draw_routetime c hb (by omega)
  have hlm : l.length ≤ 1048576 := by omega
  obtain ⟨⟨y1, y2⟩, s6, i6, o6⟩ := yield_told l n hlm
  have hyb : y2 = 0 → 0 ≤ y1 ∧ y1 ≤ 1000 := o6
  simp only [spec_DrawSpoiledBy.f, spec_DrawYieldOf.f]
  refine Ev.bind (Ev.bind d1 (Ev.now _)) ?_
  simp only [impl_SpoiledBy.f, spec_SpoiledBy.f, impl_PassedOn.f, spec_PassedOn.f, impl_WorstStep.f, spec_WorstStep.f, impl_TimeWithWaste.f, spec_TimeWithWaste.f]
  by_cases hc : codeOf (routeB l) n = 0
  · obtain ⟨hr, n0, n1⟩ := codeOf_zero hc
    obtain ⟨l1, l2⟩ := route_len hc
    have hx : ∀ x ∈ l, stepB x.f0 x.f1 x.f2 = true := fun x hx => okStep_of hc hx
    have hpl := passedB_length l n
    obtain ⟨t, st, it, htl, hts⟩ := spoil_told l n hlm
    obtain ⟨b, sb, ib, hb1, hb2⟩ := worst_told t (by omega) (by omega)
    obtain ⟨r, q, sw, iw, rw_, hrq⟩ := times_told l n hlm hx n0 n1
    have hlen : Ev (fun k => impl_checkRoute.f k l n) 0 := ev_eq (checkRoute l n hlm) hc
    have spS : Ev (fun k => (spec_IsRoute.f k l).bind fun t => (spec_l19Code.f t n).bind fun c => if c = 0 then ((spec_l22Passed.f k l n).bind fun t268 => (spec_SpoiledBy.l0 k l t268 (([] : List Int)) 0)) else (some (([] : List Int), c))) (t, 0) :=
      spec_route l n hlm _ (fun c => (([] : List Int), c)) _ (fun _ => Ev.bind (spec_passed l n hlm) st) (fun h => absurd hc h)
    refine Ev.bind (a := (t, 0)) (Ev.bind hlen (by simp only [if_true]; exact Ev.bind it (Ev.now _))) ?_
    refine Ev.bind (a := (t, 0)) spS ?_
    refine Ev.bind (a := (passedB l n, 0)) (Ev.bind hlen (by simp only [if_true]; exact Ev.bind (impl_passed l n hlm) (Ev.now _))) ?_
    refine Ev.bind (a := (passedB l n, 0)) (spec_route l n hlm _ (fun c => (([] : List Int), c)) _ (fun _ => Ev.bind (spec_passed l n hlm) (Ev.now _)) (fun h => absurd hc h)) ?_
    refine Ev.bind (a := (outB l n, 0)) (ev_eq (impl_OutputOf l n hlm) (if_pos hc)) ?_
    refine Ev.bind (a := (outB l n, 0)) (ev_eq (spec_OutputOf l n hlm) (if_pos hc)) ?_
    refine Ev.bind (a := ((b : Int), 0)) (Ev.bind hlen (by simp only [if_true]; exact Ev.bind it ib)) ?_
    refine Ev.bind (a := ((b : Int), 0)) (Ev.bind spS (by simp only [if_true]; exact sb)) ?_
    refine Ev.bind (a := (r, 0)) (Ev.bind hlen (by simp only [if_true]; exact Ev.bind (impl_passed l n hlm) iw)) ?_
    refine Ev.bind (a := (r, 0)) (spec_route l n hlm _ (fun c => (0, c)) _ (fun _ => Ev.bind (spec_passed l n hlm) sw) (fun h => absurd hc h)) ?_
    refine Ev.bind (Ev.bind d1 (Ev.now _)) ?_
    refine Ev.bind i6 ?_
    refine Ev.bind s6 ?_
    simp only [if_true]
    refine Ev.bind (likeInts t (by omega)) ?_
    simp only [if_true]
    refine Ev.bind (likeInts (passedB l n) (by omega)) ?_
    simp only [if_true, bne_self_eq_false]
    have J1 : Ev (fun k => laws_FnOutputs.j1 k l n t 0 (passedB l n) (passedB l n) (outB l n) (b : Int) r false) true := by
      refine Ev.step (fun k => by rw [laws_FnOutputs.j1]) ?_
      simp only [Bool.false_eq_true, if_false, if_true]
      refine out_step l n t (passedB l n) (outB l n) b r (by omega) hb1 (by omega) ?_ ?_
      · intro i hi
        obtain ⟨f0, f1, f2⟩ := passF_falls l n hx n0 (by omega) i (by omega)
        have et := hts i (by omega)
        have hw := hb2 i hi
        generalize rd (passedB l n) ((i : Int) + 1) = u at *
        generalize rd (passedB l n) (i : Int) = v at *
        rw [w64 (by omega) (by omega)] at et
        rw [et] at hw ⊢
        refine ⟨by omega, hw, ?_⟩
        rw [w64 (by omega) (by omega)]
        omega
      · refine Ev.step (fun k => by rw [laws_FnOutputs.l0]) ?_
        simp only [if_neg (nlt_self t)]
        have en : wrap64 (n + 1) = n + 1 := w64 (by omega) (by omega)
        rw [en]
        refine Ev.bind (impl_OutputOf l (n + 1) hlm) ?_
        refine Ev.bind (a := (q, 0)) (by
          simp only [impl_RouteTime.f]
          exact Ev.bind hlen (by simp only [if_true]; exact rw_)) ?_
        have hP : ∀ i : Nat, i ≤ t.length → 0 ≤ rd (passedB l n) (i : Int) ∧ rd (passedB l n) (i : Int) ≤ 1000001 := by
          intro i hi
          cases i with
          | zero =>
            have : rd (passedB l n) ((0 : Nat) : Int) = n := by simp [rd, passedB]
            omega
          | succ i =>
            obtain ⟨f0, f1, f2⟩ := passF_falls l n hx n0 (by omega) i (by omega)
            rw [show ((i + 1 : Nat) : Int) = (i : Int) + 1 by omega]
            omega
        refine Ev.bind (sum_told t (fun i => rd (passedB l n) (i : Int)) (by omega) hP (by
          intro i hi
          rw [hts i (by omega)]
          simp)) ?_
        have z0 : rd (passedB l n) ((0 : Nat) : Int) = n := by simp [rd, passedB]
        have zl : rd (passedB l n) ((t.length : Nat) : Int) = outB l n := by rw [htl]; rfl
        have ho := hP t.length (Nat.le_refl _)
        rw [zl] at ho
        have es : wrap64 (outB l n + (n - outB l n)) = n := by rw [w64 (by omega) (by omega)]; omega
        have ep : wrap64 (((passedB l n).length : Int) - 1) = (l.length : Int) := by rw [hpl, w64 (by omega) (by omega)]; omega
        simp only [z0, zl, es, if_true, ep, if_pos (nat_nn l.length), if_pos (show (l.length : Int) < ((passedB l n).length : Int) by omega)]
        have eo : outB l n = rd (passedB l n) (l.length : Int) := rfl
        rw [if_pos eo]
        by_cases hc1 : codeOf (routeB l) (n + 1) = 0
        · have hm := out_mono l n (n + 1) hx n0 (by omega) (by omega)
          simp only [if_pos hc1, if_true, if_pos (show outB l (n + 1) ≥ outB l n from hm), decide_eq_true hrq]
          exact Ev.now _
        · simp only [if_neg hc1, if_true, decide_eq_true hrq]
          exact Ev.now _
    refine Ev.step (fun k => by rw [laws_FnOutputs.j0]) ?_
    simp only [Bool.false_eq_true, if_false]
    by_cases hy : y2 = 0
    · obtain ⟨g0, g1⟩ := hyb hy
      simp only [if_pos hy, if_neg (show ¬ y1 < 0 by omega), decide_eq_false (show ¬ y1 > 1000 by omega)]
      exact J1
    · simp only [if_neg hy]
      exact J1
  · have hlen : Ev (fun k => impl_checkRoute.f k l n) (codeOf (routeB l) n) := checkRoute l n hlm
    have spS : Ev (fun k => (spec_IsRoute.f k l).bind fun t => (spec_l19Code.f t n).bind fun c => if c = 0 then ((spec_l22Passed.f k l n).bind fun t268 => (spec_SpoiledBy.l0 k l t268 (([] : List Int)) 0)) else (some (([] : List Int), c))) ([], codeOf (routeB l) n) :=
      spec_route l n hlm _ (fun c => (([] : List Int), c)) _ (fun h => absurd h hc) (fun _ => rfl)
    refine Ev.bind (a := (([] : List Int), codeOf (routeB l) n)) (Ev.bind hlen (by simp only [if_neg hc]; exact Ev.now _)) ?_
    refine Ev.bind (a := (([] : List Int), codeOf (routeB l) n)) spS ?_
    refine Ev.bind (a := (([] : List Int), codeOf (routeB l) n)) (Ev.bind hlen (by simp only [if_neg hc]; exact Ev.now _)) ?_
    refine Ev.bind (a := (([] : List Int), codeOf (routeB l) n)) (spec_route l n hlm _ (fun c => (([] : List Int), c)) _ (fun h => absurd h hc) (fun _ => rfl)) ?_
    refine Ev.bind (a := ((0 : Int), codeOf (routeB l) n)) (ev_eq (impl_OutputOf l n hlm) (if_neg hc)) ?_
    refine Ev.bind (a := ((0 : Int), codeOf (routeB l) n)) (ev_eq (spec_OutputOf l n hlm) (if_neg hc)) ?_
    refine Ev.bind (a := ((0 : Int), codeOf (routeB l) n)) (Ev.bind hlen (by simp only [if_neg hc]; exact Ev.now _)) ?_
    refine Ev.bind (a := ((0 : Int), codeOf (routeB l) n)) (Ev.bind spS (by simp only [if_neg hc]; exact Ev.now _)) ?_
    refine Ev.bind (a := ((0 : Int), codeOf (routeB l) n)) (Ev.bind hlen (by simp only [if_neg hc]; exact Ev.now _)) ?_
    refine Ev.bind (a := ((0 : Int), codeOf (routeB l) n)) (spec_route l n hlm _ (fun c => (0, c)) _ (fun h => absurd h hc) (fun _ => rfl)) ?_
    refine Ev.bind (Ev.bind d1 (Ev.now _)) ?_
    refine Ev.bind i6 ?_
    refine Ev.bind s6 ?_
    simp only [if_true]
    refine Ev.bind (likeInts [] (by simp)) ?_
    simp only [if_true]
    refine Ev.bind (likeInts [] (by simp)) ?_
    simp only [if_true, bne_self_eq_false]
    have J1 : Ev (fun k => laws_FnOutputs.j1 k l n [] (codeOf (routeB l) n) [] [] 0 0 0 false) true := by
      refine Ev.step (fun k => by rw [laws_FnOutputs.j1]) ?_
      simp only [Bool.false_eq_true, if_false, if_neg hc]
      exact Ev.now _
    refine Ev.step (fun k => by rw [laws_FnOutputs.j0]) ?_
    simp only [Bool.false_eq_true, if_false]
    by_cases hy : y2 = 0
    · obtain ⟨g0, g1⟩ := hyb hy
      simp only [if_pos hy, if_neg (show ¬ y1 < 0 by omega), decide_eq_false (show ¬ y1 > 1000 by omega)]
      exact J1
    · simp only [if_neg hy]
      exact J1

end Go.Proofs.Ytefnoiajfjbbpaa.Pure
