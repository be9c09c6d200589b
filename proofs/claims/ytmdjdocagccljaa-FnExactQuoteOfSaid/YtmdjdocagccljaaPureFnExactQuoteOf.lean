/- The pure statement of law FnExactQuoteOf: what the printed functions compute answers true at every input. No condition. -/
import Derived.Test.YtmdjdocagccljaaPFnExactQuoteOfx3
set_option linter.unusedVariables false
set_option linter.unusedSimpArgs false
namespace Go.Proofs.Ytmdjdocagccljaa.Pure
open Go.RowKit Go.Proofs.Ytmdjdocagccljaa.PFnExactQuoteOf Go.Proofs.YtmdjdocagccljaaW.PrintWords Go.Proofs.YtmdjdocagccljaaW.PrintLast Go.Proofs.YtmdjdocagccljaaW.PrintMore


/-! #### Numbers and rounds -/
theorem w64 {x : Int} (h1 : -9223372036854775808 ≤ x) (h2 : x ≤ 9223372036854775807) : wrap64 x = x := by
  unfold wrap64
  omega
theorem wf64 {x : Int} (h : (Lit.int .i64 x).wf = true) : -9223372036854775808 ≤ x ∧ x ≤ 9223372036854775807 := by
  simp only [Lit.wf, IntKind.min, IntKind.max, IntKind.signed, IntKind.bits, Bool.and_eq_true, decide_eq_true_eq, if_true] at h
  omega
theorem ev_of {α : Type} {g : Nat → Option α} {r : α} (h : ∀ k, g k = some r) : Ev g r := ⟨0, fun k _ => h k⟩
theorem ev_eq {α : Type} {g : Nat → Option α} {r r' : α} (h : Ev g r) (e : r = r') : Ev g r' := e ▸ h
/-- A loop over a list: what lies behind, what lies ahead. -/
theorem loop_list {α : Type} (l : List α) (Q : List α → List α → Prop) (h0 : Q l []) (hs : ∀ p x s, l = p ++ x :: s → Q (p ++ [x]) s → Q p (x :: s)) : Q [] l := by
  have h : ∀ s p, l = p ++ s → Q p s := by
    intro s
    induction s with
    | nil => intro p hp; rw [List.append_nil] at hp; rw [← hp]; exact h0
    | cons x s ih => intro p hp; exact hs p x s hp (ih (p ++ [x]) (by simp [hp]))
  exact h l [] rfl
theorem mid_lt {α : Type} {l p s : List α} {x : α} (h : l = p ++ x :: s) : (p.length : Int) < (l.length : Int) := by
  rw [h, List.length_append, List.length_cons]; omega
theorem mid_next {α : Type} {l p s : List α} {x : α} (h : l = p ++ x :: s) (hl : l.length ≤ 9223372036854775807) : wrap64 ((p.length : Int) + 1) = ((p ++ [x]).length : Int) := by
  have := mid_lt h
  rw [w64 (by omega) (by omega), List.length_append]; simp
theorem mid_get {α : Type} {l p s : List α} {x : α} (h : l = p ++ x :: s) (z : α) : l.getD (p.length : Int).toNat z = x := by
  rw [h]; simp
theorem get_mid {α : Type} (p s : List α) (x z : α) : (p ++ x :: s).getD (p.length : Int).toNat z = x := by simp
theorem nat_nn (n : Nat) : (0 : Int) ≤ (n : Int) := by omega
theorem nlt_self {α : Type} (l : List α) : ¬ ((l.length : Int) < (l.length : Int)) := by omega
theorem set_mid {α : Type} (p s : List α) (x y : α) : (p ++ x :: s).set ((p.length : Int).toNat) y = p ++ y :: s := by
  rw [Int.toNat_natCast, List.set_append_right _ _ (Nat.le_refl _)]; simp
theorem nil_or_snoc {α : Type} (p : List α) : p = [] ∨ ∃ q y, p = q ++ [y] := by
  rcases List.eq_nil_or_concat p with h | ⟨q, y, h⟩
  · exact .inl h
  · exact .inr ⟨q, y, by rw [h, List.concat_eq_append]⟩
theorem szLine (l : List S90) (a : Int) (ha : 0 ≤ a) (hb : a ≤ 1048576) (h : l.length ≤ 9000000000000000000) : laws_szLineS.f l a = some (if a - l.length < 0 then (-1 : Int) else a - l.length) := by
  unfold laws_szLineS.f
  rw [w64 (by omega) (by omega)]
  split <;> rfl
def cvLine (x : S90) : S88 := ⟨x.f0, x.f1⟩
theorem toLineS (l : List S90) (h : l.length ≤ 1048576) : Ev (fun k => laws_toLineS.f k l) (l.map cvLine) := by
  have H := loop_list l (fun p s => ∀ (a t : List S88), a.length = p.length → t.length = s.length → Ev (fun k => laws_toLineS.l0 k l (a ++ t) (p.length : Int)) (a ++ s.map cvLine)) ?_ ?_
  · have := H [] (List.replicate l.length z88) rfl (by simp)
    simp only [laws_toLineS.f, Int.toNat_natCast, if_pos (nat_nn l.length)]
    rw [show (fun k => if l.length ≤ _ then _ else _) = (fun k => laws_toLineS.l0 k l (List.replicate l.length z88) 0) from funext fun k => if_pos (by omega)]
    simpa using this
  · intro a t ha ht
    refine Ev.step (fun k => by rw [laws_toLineS.l0]) ?_
    simp only [if_neg (nlt_self l)]
    have : t = [] := List.eq_nil_of_length_eq_zero (by simpa using ht)
    subst this
    exact Ev.now _
  · intro p x s he ih a t ha ht
    obtain ⟨y, t, rfl⟩ : ∃ y t', t = y :: t' := by cases t with | nil => simp at ht | cons y t => exact ⟨y, t, rfl⟩
    refine Ev.step (fun k => by rw [laws_toLineS.l0]) ?_
    have e : ((p.length : Int) < ((a ++ y :: t).length : Int)) := by simp; omega
    have e2 := set_mid a t y (cvLine x)
    rw [ha] at e2
    simp only [if_pos (mid_lt he), if_pos (nat_nn p.length), laws_toLine.f, Option.bind_some, if_pos e, mid_next he (by omega), rd_T90, mid_get he]
    have := ih (a ++ [cvLine x]) t (by simp [ha]) (by simpa using ht)
    simp only [cvLine, List.append_assoc, List.singleton_append, List.map_cons] at this e2 ⊢
    rw [e2]
    exact this
theorem eqLineS (l : List S88) (h : l.length ≤ 9000000000000000000) : Ev (fun k => laws_eqLineS.f k l l) true := by
  simp only [laws_eqLineS.f, if_true]
  refine loop_list l (fun p s => Ev (fun k => laws_eqLineS.l0 k l l (p.length : Int)) true) ?_ ?_
  · refine Ev.step (fun k => by rw [laws_eqLineS.l0]) ?_
    simp only [if_neg (nlt_self l)]
    exact Ev.now _
  · intro p x s he ih
    refine Ev.step (fun k => by rw [laws_eqLineS.l0]) ?_
    simp only [if_pos (mid_lt he), if_pos (nat_nn p.length), laws_eqLine.f, if_true, Option.bind_some, mid_next he (by omega)]
    exact ih
def inR (a lo hi : Int) : Bool := decide (lo ≤ a) && decide (a ≤ hi)
theorem inR_iff {a lo hi : Int} : inR a lo hi = true ↔ lo ≤ a ∧ a ≤ hi := by simp [inR]
theorem l01In (a lo hi : Int) : spec_l01In.f a lo hi = some (inR a lo hi) := by
  unfold spec_l01In.f inR
  split
  · rename_i h; rw [decide_eq_true (show lo ≤ a from h), Bool.true_and]
  · rename_i h; rw [decide_eq_false (show ¬ lo ≤ a from h), Bool.false_and]
theorem inRange (a lo hi : Int) : impl_inRange.f a lo hi = some (inR a lo hi) := by
  unfold impl_inRange.f inR
  split
  · rename_i h; rw [decide_eq_true (show lo ≤ a from h), Bool.true_and]
  · rename_i h; rw [decide_eq_false (show ¬ lo ≤ a from h), Bool.false_and]
def okLine (x : S88) : Bool := inR x.f0 0 1000000 && inR x.f1 0 1000000
theorem spec_IsBill (l : List S88) (h : l.length ≤ 1048576) : Ev (fun k => spec_IsBill.f k l) (l.all okLine && decide (l.length ≤ 40)) := by
  refine loop_list l (fun p s => Ev (fun k => spec_IsBill.l0 k l (p.length : Int)) (s.all okLine && decide (l.length ≤ 40))) ?_ ?_
  · refine Ev.step (fun k => by rw [spec_IsBill.l0]) ?_
    simp only [if_neg (nlt_self l), List.all_nil, Bool.true_and]
    exact ev_eq (Ev.now _) (decide_eq_decide.2 (by omega))
  · intro p x s he ih
    refine Ev.step (fun k => by rw [spec_IsBill.l0]) ?_
    simp only [if_pos (mid_lt he), if_pos (nat_nn p.length), mid_next he (by omega), rd_T88, mid_get he, l01In, Option.bind_some, List.all_cons]
    cases h0 : inR x.f0 0 1000000 <;> cases h1 : inR x.f1 0 1000000 <;> simp [okLine, h0, h1] <;> first | exact Ev.now _ | simpa [mid_next he (by omega)] using ih
theorem impl_IsBill_1_ok (x : S88) : impl_IsBill_1.f x.f0 x.f1 = some (!(okLine x)) := by
  simp only [impl_IsBill_1.f, impl_isRun.f, impl_isPrice.f, inRange, Option.bind_some, okLine]
  cases inR x.f0 0 1000000 <;> cases inR x.f1 0 1000000 <;> rfl
theorem contains_impl_IsBill_1 (l : List S88) (h : l.length ≤ 1048576) : Ev (fun k => slices_ContainsFunc_at_impl_IsBill_1.f k l) (!(l.all okLine)) := by
  have H := loop_list l (fun p s => ∃ r, Ev (fun k => slices_IndexFunc_at_impl_IsBill_1.l0 k l (l.length : Int) (p.length : Int)) r ∧ decide (r ≥ 0) = !(s.all okLine)) ?_ ?_
  · obtain ⟨r, hr, e⟩ := H
    rw [← e]
    exact Ev.bind hr (Ev.now _)
  · refine ⟨-1, Ev.step (fun k => by rw [slices_IndexFunc_at_impl_IsBill_1.l0]) ?_, by simp⟩
    simp only [if_neg (nlt_self l)]
    exact Ev.now _
  · rintro p x s he ⟨r, ih, e⟩
    by_cases hx : okLine x = true
    · refine ⟨r, Ev.step (fun k => by rw [slices_IndexFunc_at_impl_IsBill_1.l0]) ?_, by rw [e]; simp [hx]⟩
      simp only [if_pos (mid_lt he), if_pos (nat_nn p.length), rd_T88, mid_get he, impl_IsBill_1_ok, hx, Option.bind_some, mid_next he (by omega)]
      exact ih
    · refine ⟨(p.length : Int), Ev.step (fun k => by rw [slices_IndexFunc_at_impl_IsBill_1.l0]) ?_, by simp [hx]⟩
      simp only [if_pos (mid_lt he), if_pos (nat_nn p.length), rd_T88, mid_get he, impl_IsBill_1_ok, Bool.eq_false_iff.2 hx, Option.bind_some]
      exact Ev.now _
theorem impl_IsBill (l : List S88) (h : l.length ≤ 1048576) : Ev (fun k => impl_IsBill.f k l) (l.all okLine && decide (l.length ≤ 40)) := by
  simp only [impl_IsBill.f]
  by_cases hl : (l.length : Int) ≤ 40
  · simp only [if_pos hl]
    exact ev_eq (Ev.bind (contains_impl_IsBill_1 l h) (Ev.now _)) (by simp [show l.length ≤ 40 by omega])
  · simp only [if_neg hl]
    exact ev_eq (Ev.now _) (by simp [show ¬ l.length ≤ 40 by omega])

def sumB (l : List S88) : Int := l.foldl (fun acc x => wrap64 (acc + wrap64 (x.f0 * x.f1))) 0
theorem spec_sum (l : List S88) (h : l.length ≤ 1048576) : Ev (fun k => spec_l23Sum.f k l) (sumB l) := by
  refine loop_list l (fun p s => ∀ acc, Ev (fun k => spec_l23Sum.l0 k l acc (p.length : Int)) (s.foldl (fun acc x => wrap64 (acc + wrap64 (x.f0 * x.f1))) acc)) ?_ ?_ 0
  · intro acc
    refine Ev.step (fun k => by rw [spec_l23Sum.l0]) ?_
    simp only [if_neg (nlt_self l), List.foldl_nil]
    exact Ev.now _
  · intro p x s he ih acc
    refine Ev.step (fun k => by rw [spec_l23Sum.l0]) ?_
    simp only [if_pos (mid_lt he), if_pos (nat_nn p.length), rd_T88, mid_get he, mid_next he (by omega), List.foldl_cons]
    exact ih _
theorem impl_sum (l : List S88) (h : l.length ≤ 1048576) : Ev (fun k => impl_billed.f k l) (sumB l) := by
  refine loop_list l (fun p s => ∀ acc, Ev (fun k => impl_billed.l0 k acc l (l.length : Int) (p.length : Int)) (s.foldl (fun acc x => wrap64 (acc + wrap64 (x.f0 * x.f1))) acc)) ?_ ?_ 0
  · intro acc
    refine Ev.step (fun k => by rw [impl_billed.l0]) ?_
    simp only [if_neg (nlt_self l), List.foldl_nil]
    exact Ev.now _
  · intro p x s he ih acc
    refine Ev.step (fun k => by rw [impl_billed.l0]) ?_
    simp only [if_pos (mid_lt he), if_pos (nat_nn p.length), rd_T88, mid_get he, mid_next he (by omega), List.foldl_cons]
    exact ih _
theorem both_sum (l : List S88) (h : l.length ≤ 1048576) : ∃ s, Ev (fun k => spec_l23Sum.f k l) s ∧ Ev (fun k => impl_billed.f k l) s := ⟨sumB l, spec_sum l h, impl_sum l h⟩
def quo (a b : Int) : Int := wrap64 (Int.tdiv (wrap64 ((wrap64 (a + b)) - 1)) b)
theorem l01Ceil (a b : Int) (h : b ≠ 0) : spec_l01Ceil.f a b = some (quo a b) := by
  unfold spec_l01Ceil.f
  rw [if_neg h]
  rfl
theorem quotient (a b : Int) (h : b ≠ 0) : impl_quotient.f a b = some (quo a b) := by
  unfold impl_quotient.f
  rw [if_neg h]
  rfl
def withB (a p : Int) : Int := wrap64 (a + quo (wrap64 (a * p)) 100)
theorem l23With (a p : Int) : spec_l23With.f a p = some (withB a p) := by
  simp only [spec_l23With.f, l01Ceil _ 100 (by decide), Option.bind_some]
  rfl
theorem withPercent (a p : Int) : impl_withPercent.f a p = some (withB a p) := by
  simp only [impl_withPercent.f, quotient _ 100 (by decide), Option.bind_some]
  rfl
theorem both_QuoteOf (l : List S88) (a b : Int) (h : l.length ≤ 1048576) : ∃ r, Ev (fun k => spec_QuoteOf.f k l a b) r ∧ Ev (fun k => impl_QuoteOf.f k l a b) r := by
  obtain ⟨s, h1, h2⟩ := both_sum l h
  simp only [spec_QuoteOf.f, impl_QuoteOf.f, l01In, impl_isPercentage.f, inRange, Option.bind_some]
  cases hb : (l.all okLine && decide (l.length ≤ 40))
  · refine ⟨(0, 1), Ev.bind (ev_eq (spec_IsBill l h) hb) ?_, Ev.bind (ev_eq (impl_IsBill l h) hb) ?_⟩ <;> simp only [Bool.false_eq_true, if_false] <;> exact Ev.now _
  · cases ha : inR a 0 1000
    · refine ⟨(0, 2), Ev.bind (ev_eq (spec_IsBill l h) hb) ?_, Ev.bind (ev_eq (impl_IsBill l h) hb) ?_⟩ <;> simp only [Bool.false_eq_true, if_false, if_true]
      · exact Ev.step (fun k => by rw [spec_QuoteOf.j0, if_pos rfl]) (Ev.now _)
      · exact Ev.step (fun k => by rw [impl_QuoteOf.j0, if_pos rfl]) (Ev.now _)
    · cases hb2 : inR b 0 1000
      · refine ⟨(0, 2), Ev.bind (ev_eq (spec_IsBill l h) hb) ?_, Ev.bind (ev_eq (impl_IsBill l h) hb) ?_⟩ <;> simp only [if_true, Bool.not_false]
        · exact Ev.step (fun k => by rw [spec_QuoteOf.j0, if_pos rfl]) (Ev.now _)
        · exact Ev.step (fun k => by rw [impl_QuoteOf.j0, if_pos rfl]) (Ev.now _)
      · refine ⟨(withB (withB s a) b, 0), Ev.bind (ev_eq (spec_IsBill l h) hb) ?_, Ev.bind (ev_eq (impl_IsBill l h) hb) ?_⟩ <;> simp only [if_true, Bool.not_true]
        · refine Ev.step (fun k => by rw [spec_QuoteOf.j0]) ?_
          simp only [Bool.false_eq_true, if_false, l23With, Option.bind_some]
          exact Ev.bind h1 (Ev.now _)
        · refine Ev.step (fun k => by rw [impl_QuoteOf.j0]) ?_
          simp only [Bool.false_eq_true, if_false, withPercent, Option.bind_some]
          exact Ev.bind h2 (Ev.now _)
theorem FnExactQuoteOf : laws_FnExactQuoteOf.Pure := by
  intro l a b hl hw _ _
  refine Ev.rounds (g := fun k => laws_FnExactQuoteOf.f k l a b) ?_
  simp only [laws_FnExactQuoteOf.f, szLine l 1048576 (by omega) (by omega) (by omega), Option.bind_some]
  by_cases hs : (1048576 : Int) - l.length < 0
  · simp only [if_pos hs]
    exact Ev.now _
  · simp only [if_neg hs]
    have h0 : l.length ≤ 1048576 := by omega
    have hm : (l.map cvLine).length ≤ 1048576 := by simpa using h0
    obtain ⟨r, h1, h2⟩ := both_QuoteOf (l.map cvLine) a b hm
    refine Ev.bind (toLineS l h0) ?_
    refine Ev.bind h1 ?_
    refine Ev.bind (toLineS l h0) ?_
    refine Ev.bind h2 ?_
    simp only [if_true, bne_self_eq_false]
    refine Ev.step (fun k => by rw [laws_FnExactQuoteOf.j0]) ?_
    simp only [Bool.false_eq_true, if_false]
    refine Ev.bind (toLineS l h0) ?_
    refine Ev.bind (eqLineS _ (by omega)) ?_
    simp only [if_true]
    exact Ev.now _

end Go.Proofs.Ytmdjdocagccljaa.Pure
