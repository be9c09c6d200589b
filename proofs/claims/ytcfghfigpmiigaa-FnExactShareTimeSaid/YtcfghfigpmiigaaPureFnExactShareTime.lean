/- The pure statement of law FnExactShareTime: what the printed functions compute answers true at every input. No condition. -/
import Derived.Test.YtcfghfigpmiigaaPFnExactShareTimex2
set_option linter.unusedVariables false
set_option linter.unusedSimpArgs false
namespace Go.Proofs.Ytcfghfigpmiigaa.Pure
open Go.RowKit Go.Proofs.Ytcfghfigpmiigaa.PFnExactShareTime Go.Proofs.YtcfghfigpmiigaaW.PrintWords Go.Proofs.YtcfghfigpmiigaaW.PrintLast Go.Proofs.YtcfghfigpmiigaaW.PrintMore


/-! #### Numbers and rounds -/
theorem w64 {x : Int} (h1 : -9223372036854775808 ≤ x) (h2 : x ≤ 9223372036854775807) : wrap64 x = x := by
  unfold wrap64
  omega
theorem wf64 {x : Int} (h : (Lit.int .i64 x).wf = true) : -9223372036854775808 ≤ x ∧ x ≤ 9223372036854775807 := by
  simp only [Lit.wf, IntKind.min, IntKind.max, IntKind.signed, IntKind.bits, Bool.and_eq_true, decide_eq_true_eq, if_true] at h
  omega
theorem ev_of {α : Type} {g : Nat → Option α} {r : α} (h : ∀ k, g k = some r) : Ev g r := ⟨0, fun k _ => h k⟩
theorem ev_eq {α : Type} {g : Nat → Option α} {r r' : α} (h : Ev g r) (e : r = r') : Ev g r' := e ▸ h
/-- A loop over a list: what lies behind, what lies ahead. -/
theorem loop_list {α : Type} (l : List α) (Q : List α → List α → Prop) (h0 : Q l []) (hs : ∀ p x s, l = p ++ x :: s → Q (p ++ [x]) s → Q p (x :: s)) : Q [] l := by
  have h : ∀ s p, l = p ++ s → Q p s := by
    intro s
    induction s with
    | nil => intro p hp; rw [List.append_nil] at hp; rw [← hp]; exact h0
    | cons x s ih => intro p hp; exact hs p x s hp (ih (p ++ [x]) (by simp [hp]))
  exact h l [] rfl
theorem mid_lt {α : Type} {l p s : List α} {x : α} (h : l = p ++ x :: s) : (p.length : Int) < (l.length : Int) := by
  rw [h, List.length_append, List.length_cons]; omega
theorem mid_next {α : Type} {l p s : List α} {x : α} (h : l = p ++ x :: s) (hl : l.length ≤ 9223372036854775807) : wrap64 ((p.length : Int) + 1) = ((p ++ [x]).length : Int) := by
  have := mid_lt h
  rw [w64 (by omega) (by omega), List.length_append]; simp
theorem mid_get {α : Type} {l p s : List α} {x : α} (h : l = p ++ x :: s) (z : α) : l.getD (p.length : Int).toNat z = x := by
  rw [h]; simp
theorem get_mid {α : Type} (p s : List α) (x z : α) : (p ++ x :: s).getD (p.length : Int).toNat z = x := by simp
theorem nat_nn (n : Nat) : (0 : Int) ≤ (n : Int) := by omega
theorem nlt_self {α : Type} (l : List α) : ¬ ((l.length : Int) < (l.length : Int)) := by omega
theorem set_mid {α : Type} (p s : List α) (x y : α) : (p ++ x :: s).set ((p.length : Int).toNat) y = p ++ y :: s := by
  rw [Int.toNat_natCast, List.set_append_right _ _ (Nat.le_refl _)]; simp
theorem nil_or_snoc {α : Type} (p : List α) : p = [] ∨ ∃ q y, p = q ++ [y] := by
  rcases List.eq_nil_or_concat p with h | ⟨q, y, h⟩
  · exact .inl h
  · exact .inr ⟨q, y, by rw [h, List.concat_eq_append]⟩
def inR (a lo hi : Int) : Bool := decide (lo ≤ a) && decide (a ≤ hi)
theorem inR_iff {a lo hi : Int} : inR a lo hi = true ↔ lo ≤ a ∧ a ≤ hi := by simp [inR]
theorem l01In (a lo hi : Int) : spec_l01In.f a lo hi = some (inR a lo hi) := by
  unfold spec_l01In.f inR
  split
  · rename_i h; rw [decide_eq_true (show lo ≤ a from h), Bool.true_and]
  · rename_i h; rw [decide_eq_false (show ¬ lo ≤ a from h), Bool.false_and]
theorem inRange (a lo hi : Int) : impl_inRange.f a lo hi = some (inR a lo hi) := by
  unfold impl_inRange.f inR
  split
  · rename_i h; rw [decide_eq_true (show lo ≤ a from h), Bool.true_and]
  · rename_i h; rw [decide_eq_false (show ¬ lo ≤ a from h), Bool.false_and]
def stepB (a b c : Int) : Bool := inR a 0 10000 && (inR b 1 100000 && inR c 0 500)
theorem spec_IsStep (a b c : Int) : spec_IsStep.f a b c = some (stepB a b c) := by
  simp only [spec_IsStep.f, l01In, Option.bind_some, stepB]
  cases inR a 0 10000 <;> cases inR b 1 100000 <;> cases inR c 0 500 <;> rfl
theorem impl_IsStep (a b c : Int) : impl_IsStep.f a b c = some (stepB a b c) := by
  simp only [impl_IsStep.f, inRange, Option.bind_some, stepB]
  cases inR a 0 10000 <;> cases inR b 1 100000 <;> cases inR c 0 500 <;> rfl
def quo (a b : Int) : Int := wrap64 (Int.tdiv (wrap64 ((wrap64 (a + b)) - 1)) b)
theorem l01Ceil (a b : Int) (h : b ≠ 0) : spec_l01Ceil.f a b = some (quo a b) := by
  unfold spec_l01Ceil.f
  rw [if_neg h]
  rfl
theorem quotient (a b : Int) (h : b ≠ 0) : impl_quotient.f a b = some (quo a b) := by
  unfold impl_quotient.f
  rw [if_neg h]
  rfl
def minB (a b n : Int) : Int := wrap64 (a + quo (wrap64 (60 * n)) b)
theorem stepB_pos {a b c : Int} (h : stepB a b c = true) : b ≠ 0 := by
  simp only [stepB, Bool.and_eq_true, inR_iff] at h
  omega
theorem l19Time (a b c n : Int) (h : stepB a b c = true) : spec_l19Time.f a b c n = some (minB a b n) := by
  simp only [spec_l19Time.f, l01Ceil _ b (stepB_pos h), Option.bind_some]
  rfl
theorem minutesOf (a b c n : Int) (h : stepB a b c = true) : impl_minutesOf.f a b c n = some (minB a b n) := by
  simp only [impl_minutesOf.f, quotient _ b (stepB_pos h), Option.bind_some, Int.mul_comm n 60]
  rfl
def codeOf (b : Bool) (n : Int) : Int := if b = true then (if inR n 0 1000000 = true then 0 else 2) else 1
theorem l19Code (b : Bool) (n : Int) : spec_l19Code.f b n = some (codeOf b n) := by
  simp only [spec_l19Code.f, l01In, Option.bind_some, codeOf]
  cases b <;> cases inR n 0 1000000 <;> rfl
theorem codeOf_zero {b : Bool} {n : Int} (h : codeOf b n = 0) : b = true ∧ 0 ≤ n ∧ n ≤ 1000000 := by
  unfold codeOf at h
  cases b <;> cases h1 : inR n 0 1000000 <;> simp [h1] at h
  exact ⟨rfl, inR_iff.1 h1⟩
theorem ceil_eq {n k : Int} (hk : 1 ≤ k) : (n + k - 1) / k = n / k + (if 0 < n % k then 1 else 0) := by
  have h1 := Int.emod_nonneg n (show k ≠ 0 by omega)
  have h2 := Int.emod_lt_of_pos n (show 0 < k by omega)
  have h3 := Int.mul_ediv_add_emod n k
  have e : n + k - 1 = (n % k + k - 1) + k * (n / k) := by omega
  rw [e, Int.add_mul_ediv_left _ _ (show k ≠ 0 by omega)]
  by_cases h : 0 < n % k
  · rw [if_pos h]
    have : (n % k + k - 1) / k = 1 := by
      rw [show n % k + k - 1 = (n % k - 1) + k * 1 by omega, Int.add_mul_ediv_left _ _ (show k ≠ 0 by omega), Int.ediv_eq_zero_of_lt (by omega) (by omega)]
      rfl
    omega
  · rw [if_neg h]
    have : (n % k + k - 1) / k = 0 := Int.ediv_eq_zero_of_lt (by omega) (by omega)
    omega
theorem quo_eq {a b : Int} (h0 : 0 ≤ a) (h1 : a ≤ 4000000000000000000) (hb : 1 ≤ b) (hb1 : b ≤ 4000000000000000000) : quo a b = (a + b - 1) / b := by
  unfold quo
  rw [w64 (x := a + b) (by omega) (by omega), w64 (x := a + b - 1) (by omega) (by omega), Int.tdiv_eq_ediv_of_nonneg (by omega)]
  have := Int.ediv_le_self (a := a + b - 1) b (by omega)
  have := Int.ediv_nonneg (a := a + b - 1) (b := b) (by omega) (by omega)
  rw [w64 (by omega) (by omega)]
/-- What a rounded up division is: the least number whose product is enough. -/
theorem ceil_spec {a b : Int} (hb : 1 ≤ b) : a ≤ ((a + b - 1) / b) * b ∧ ((a + b - 1) / b) * b < a + b := by
  have h1 := Int.mul_ediv_add_emod (a + b - 1) b
  have h2 := Int.emod_nonneg (a + b - 1) (show b ≠ 0 by omega)
  have h3 := Int.emod_lt_of_pos (a + b - 1) (show 0 < b by omega)
  rw [Int.mul_comm]
  constructor <;> omega
def shareB (n k i : Int) : Int := n / k + (if i < n % k then 1 else 0)
theorem shares_from (n kk : Int) (hn : 0 ≤ n) (hn1 : n ≤ 1000000000) (hk : 1 ≤ kk) (hk1 : kk ≤ 64) : ∀ (d : Nat) (i : Int) (acc : List Int), kk - i = d → 0 ≤ i → acc.length = i.toNat →
    ∃ r, Ev (fun k => spec_EvenShares.l0 k n kk acc i) (acc ++ r, 0) ∧ (0 < d → ∃ r', r = shareB n kk i :: r') := by
  have q0 := Int.ediv_nonneg (a := n) (b := kk) (by omega) (by omega)
  have q1 := Int.ediv_le_self (a := n) kk (by omega)
  have m0 := Int.emod_nonneg n (show kk ≠ 0 by omega)
  have m1 := Int.emod_lt_of_pos n (show 0 < kk by omega)
  have ed : Int.tdiv n kk = n / kk := Int.tdiv_eq_ediv_of_nonneg (by omega)
  have em : Int.tmod n kk = n % kk := Int.tmod_eq_emod_of_nonneg (by omega)
  intro d
  induction d with
  | zero =>
    intro i acc hd h0 ha
    refine ⟨[], ?_, fun h => absurd h (by omega)⟩
    refine Ev.step (fun k => by rw [spec_EvenShares.l0]) ?_
    simp only [if_neg (show ¬ i < kk by omega), List.append_nil]
    exact Ev.now _
  | succ d ih =>
    intro i acc hd h0 ha
    obtain ⟨r, hr, _⟩ := ih (i + 1) (acc ++ [shareB n kk i]) (by omega) (by omega) (by simp; omega)
    refine ⟨shareB n kk i :: r, ?_, fun _ => ⟨r, rfl⟩⟩
    refine Ev.step (fun k => by rw [spec_EvenShares.l0]) ?_
    simp only [if_pos (show i < kk by omega), if_neg (show ¬ kk = 0 by omega), ed, em, if_pos (show acc.length < 17592186044416 by omega), w64 (x := n / kk) (by omega) (by omega), w64 (x := n / kk + 1) (by omega) (by omega), w64 (x := i + 1) (by omega) (by omega)]
    simp only [List.append_assoc, List.singleton_append] at hr
    by_cases h : i < n % kk
    · simp only [if_pos h]
      simp only [shareB, if_pos h] at hr ⊢
      exact hr
    · simp only [if_neg h]
      simp only [shareB, if_neg h, Int.add_zero] at hr ⊢
      exact hr
theorem even_shares (n kk : Int) (hn : 0 ≤ n) (hn1 : n ≤ 1000000000) (hk : 1 ≤ kk) (hk1 : kk ≤ 64) : ∃ r, Ev (fun k => spec_EvenShares.f k n kk) (shareB n kk 0 :: r, 0) := by
  obtain ⟨r, hr, h1⟩ := shares_from n kk hn hn1 hk hk1 kk.toNat 0 [] (by omega) (by omega) rfl
  obtain ⟨r', rfl⟩ := h1 (by omega)
  refine ⟨r', ?_⟩
  simp only [spec_EvenShares.f, l01In, inR_iff.2 ⟨hn, hn1⟩, inR_iff.2 ⟨hk, hk1⟩, Option.bind_some, if_true, Bool.not_true]
  refine Ev.step (fun k => by rw [spec_EvenShares.j0]) ?_
  simpa using hr
theorem share_quo (n kk : Int) (hn : 0 ≤ n) (hn1 : n ≤ 1000000000) (hk : 1 ≤ kk) (hk1 : kk ≤ 64) : shareB n kk 0 = quo n kk := by
  rw [quo_eq hn (by omega) hk (by omega), ceil_eq hk]
  rfl
theorem quo_zero_iff (n kk : Int) (hn : 0 ≤ n) (hn1 : n ≤ 1000000000) (hk : 1 ≤ kk) (hk1 : kk ≤ 64) : quo n kk = 0 ↔ n = 0 := by
  rw [quo_eq hn (by omega) hk (by omega)]
  obtain ⟨h1, h2⟩ := ceil_spec (a := n) (b := kk) hk
  constructor
  · intro h; rw [h] at h1; omega
  · intro h; subst h; exact Int.ediv_eq_zero_of_lt (by omega) (by omega)
theorem spec_ShareTime (a b c n m : Int) : Ev (fun k => spec_ShareTime.f k a b c n m)
    (if codeOf (stepB a b c) n = 0 ∧ inR m 1 64 = true then (if n = 0 then (0, 0) else (minB a b (quo n m), 0)) else if codeOf (stepB a b c) n = 0 then (0, 2) else (0, codeOf (stepB a b c) n)) := by
  simp only [spec_ShareTime.f, spec_IsStep, l19Code, l01In, Option.bind_some]
  by_cases hc : codeOf (stepB a b c) n = 0
  · obtain ⟨hs, h0, h1⟩ := codeOf_zero hc
    simp only [hc]
    refine Ev.step (fun k => by rw [spec_ShareTime.j0]) ?_
    cases hm : inR m 1 64
    · simp only [Bool.not_false, if_true]
      refine Ev.step (fun k => by rw [spec_ShareTime.j1]) ?_
      exact ev_eq (Ev.now _) (by simp)
    · obtain ⟨k0, k1⟩ := inR_iff.1 hm
      simp only [Bool.not_true, Bool.false_eq_true, if_false]
      refine Ev.step (fun k => by rw [spec_ShareTime.j1]) ?_
      obtain ⟨r, hr⟩ := even_shares n m h0 (by omega) k0 k1
      simp only [if_true]
      rw [share_quo n m h0 (by omega) k0 k1] at hr
      refine Ev.bind hr ?_
      have e0 : rd (quo n m :: r) 0 = quo n m := rfl
      have e2 := quo_zero_iff n m h0 (by omega) k0 k1
      simp only [e0, List.length_cons, if_pos (show (0 : Int) < ((r.length + 1 : Nat) : Int) by omega), l19Time a b c _ hs, Option.bind_some]
      by_cases hz : n = 0
      · simp only [if_pos (e2.2 hz), and_self, if_true, if_pos hz]
        exact Ev.now _
      · simp only [if_neg (fun h => hz (e2.1 h)), and_self, if_true, if_neg hz]
        exact Ev.now _
  · simp only [if_neg hc]
    refine Ev.step (fun k => by rw [spec_ShareTime.j0]) ?_
    simp only [Bool.false_eq_true, if_false]
    refine Ev.step (fun k => by rw [spec_ShareTime.j1]) ?_
    simp only [if_neg hc]
    exact ev_eq (Ev.now _) (by simp [hc])
theorem impl_ShareTime (a b c n m : Int) : Ev (fun k => impl_ShareTime.f k a b c n m)
    (if codeOf (stepB a b c) n = 0 ∧ inR m 1 64 = true then (if n = 0 then (0, 0) else (minB a b (quo n m), 0)) else if codeOf (stepB a b c) n = 0 then (0, 2) else (0, codeOf (stepB a b c) n)) := by
  simp only [impl_ShareTime.f, impl_IsStep, impl_isRun.f, inRange, Option.bind_some]
  cases hs : stepB a b c
  · simp only [Bool.false_eq_true, if_false]
    exact ev_eq (Ev.now _) (by simp [codeOf])
  · simp only [if_true]
    cases hn : inR n 0 1000000
    · simp only [Bool.false_eq_true, if_false]
      refine Ev.step (fun k => by rw [impl_ShareTime.j0]) ?_
      exact ev_eq (Ev.now _) (by simp [codeOf, hn])
    · simp only [if_true]
      refine Ev.step (fun k => by rw [impl_ShareTime.j0]) ?_
      cases hm : inR m 1 64
      · simp only [Bool.not_false, if_true]
        exact ev_eq (Ev.now _) (by simp [codeOf, hn])
      · obtain ⟨k0, k1⟩ := inR_iff.1 hm
        simp only [Bool.not_true, Bool.false_eq_true, if_false]
        by_cases hz : n = 0
        · simp only [if_pos hz]
          exact ev_eq (Ev.now _) (by rw [if_pos ⟨by simp [codeOf, hn], by simp⟩])
        · simp only [if_neg hz, quotient n m (by omega), minutesOf a b c _ hs, Option.bind_some]
          exact ev_eq (Ev.now _) (by simp [codeOf, hn])
theorem FnExactShareTime : laws_FnExactShareTime.Pure := by
  intro a b c n m _ _ _ _ _
  refine Ev.rounds (g := fun k => laws_FnExactShareTime.f k a b c n m) ?_
  simp only [laws_FnExactShareTime.f, laws_toStep.f, Option.bind_some]
  refine Ev.bind (spec_ShareTime a b c n m) ?_
  refine Ev.bind (impl_ShareTime a b c n m) ?_
  simp only [if_true]
  exact Ev.now _

end Go.Proofs.Ytcfghfigpmiigaa.Pure
