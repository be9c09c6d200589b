/- The pure statement of law FnExactVarianceOf: what the printed functions compute answers true at every input. No condition. -/
import Derived.Test.YthfgdcnngklfoaaPFnExactVarianceOfx4
set_option linter.unusedVariables false
set_option linter.unusedSimpArgs false
namespace Go.Proofs.Ythfgdcnngklfoaa.Pure
open Go.RowKit Go.Proofs.Ythfgdcnngklfoaa.PFnExactVarianceOf Go.Proofs.YthfgdcnngklfoaaW.PrintWords Go.Proofs.YthfgdcnngklfoaaW.PrintLast Go.Proofs.YthfgdcnngklfoaaW.PrintMore


/-! #### Numbers and rounds -/
theorem w64 {x : Int} (h1 : -9223372036854775808 ≤ x) (h2 : x ≤ 9223372036854775807) : wrap64 x = x := by
  unfold wrap64
  omega
theorem wf64 {x : Int} (h : (Lit.int .i64 x).wf = true) : -9223372036854775808 ≤ x ∧ x ≤ 9223372036854775807 := by
  simp only [Lit.wf, IntKind.min, IntKind.max, IntKind.signed, IntKind.bits, Bool.and_eq_true, decide_eq_true_eq, if_true] at h
  omega
theorem ev_of {α : Type} {g : Nat → Option α} {r : α} (h : ∀ k, g k = some r) : Ev g r := ⟨0, fun k _ => h k⟩
theorem ev_eq {α : Type} {g : Nat → Option α} {r r' : α} (h : Ev g r) (e : r = r') : Ev g r' := e ▸ h
/-- A loop over a list: what lies behind, what lies ahead. -/
theorem loop_list {α : Type} (l : List α) (Q : List α → List α → Prop) (h0 : Q l []) (hs : ∀ p x s, l = p ++ x :: s → Q (p ++ [x]) s → Q p (x :: s)) : Q [] l := by
  have h : ∀ s p, l = p ++ s → Q p s := by
    intro s
    induction s with
    | nil => intro p hp; rw [List.append_nil] at hp; rw [← hp]; exact h0
    | cons x s ih => intro p hp; exact hs p x s hp (ih (p ++ [x]) (by simp [hp]))
  exact h l [] rfl
theorem mid_lt {α : Type} {l p s : List α} {x : α} (h : l = p ++ x :: s) : (p.length : Int) < (l.length : Int) := by
  rw [h, List.length_append, List.length_cons]; omega
theorem mid_next {α : Type} {l p s : List α} {x : α} (h : l = p ++ x :: s) (hl : l.length ≤ 9223372036854775807) : wrap64 ((p.length : Int) + 1) = ((p ++ [x]).length : Int) := by
  have := mid_lt h
  rw [w64 (by omega) (by omega), List.length_append]; simp
theorem mid_get {α : Type} {l p s : List α} {x : α} (h : l = p ++ x :: s) (z : α) : l.getD (p.length : Int).toNat z = x := by
  rw [h]; simp
theorem get_mid {α : Type} (p s : List α) (x z : α) : (p ++ x :: s).getD (p.length : Int).toNat z = x := by simp
theorem nat_nn (n : Nat) : (0 : Int) ≤ (n : Int) := by omega
theorem nlt_self {α : Type} (l : List α) : ¬ ((l.length : Int) < (l.length : Int)) := by omega
theorem set_mid {α : Type} (p s : List α) (x y : α) : (p ++ x :: s).set ((p.length : Int).toNat) y = p ++ y :: s := by
  rw [Int.toNat_natCast, List.set_append_right _ _ (Nat.le_refl _)]; simp
theorem nil_or_snoc {α : Type} (p : List α) : p = [] ∨ ∃ q y, p = q ++ [y] := by
  rcases List.eq_nil_or_concat p with h | ⟨q, y, h⟩
  · exact .inl h
  · exact .inr ⟨q, y, by rw [h, List.concat_eq_append]⟩
theorem szLine (l : List S80) (a : Int) (ha : 0 ≤ a) (hb : a ≤ 1048576) (h : l.length ≤ 9000000000000000000) : laws_szLineS.f l a = some (if a - l.length < 0 then (-1 : Int) else a - l.length) := by
  unfold laws_szLineS.f
  rw [w64 (by omega) (by omega)]
  split <;> rfl
def cvLine (x : S80) : S78 := ⟨x.f0, x.f1⟩
theorem toLineS (l : List S80) (h : l.length ≤ 1048576) : Ev (fun k => laws_toLineS.f k l) (l.map cvLine) := by
  have H := loop_list l (fun p s => ∀ (a t : List S78), a.length = p.length → t.length = s.length → Ev (fun k => laws_toLineS.l0 k l (a ++ t) (p.length : Int)) (a ++ s.map cvLine)) ?_ ?_
  · have := H [] (List.replicate l.length z78) rfl (by simp)
    simp only [laws_toLineS.f, Int.toNat_natCast, if_pos (nat_nn l.length)]
    rw [show (fun k => if l.length ≤ _ then _ else _) = (fun k => laws_toLineS.l0 k l (List.replicate l.length z78) 0) from funext fun k => if_pos (by omega)]
    simpa using this
  · intro a t ha ht
    refine Ev.step (fun k => by rw [laws_toLineS.l0]) ?_
    simp only [if_neg (nlt_self l)]
    have : t = [] := List.eq_nil_of_length_eq_zero (by simpa using ht)
    subst this
    exact Ev.now _
  · intro p x s he ih a t ha ht
    obtain ⟨y, t, rfl⟩ : ∃ y t', t = y :: t' := by cases t with | nil => simp at ht | cons y t => exact ⟨y, t, rfl⟩
    refine Ev.step (fun k => by rw [laws_toLineS.l0]) ?_
    have e : ((p.length : Int) < ((a ++ y :: t).length : Int)) := by simp; omega
    have e2 := set_mid a t y (cvLine x)
    rw [ha] at e2
    simp only [if_pos (mid_lt he), if_pos (nat_nn p.length), laws_toLine.f, Option.bind_some, if_pos e, mid_next he (by omega), rd_T80, mid_get he]
    have := ih (a ++ [cvLine x]) t (by simp [ha]) (by simpa using ht)
    simp only [cvLine, List.append_assoc, List.singleton_append, List.map_cons] at this e2 ⊢
    rw [e2]
    exact this
theorem eqLineS (l : List S78) (h : l.length ≤ 9000000000000000000) : Ev (fun k => laws_eqLineS.f k l l) true := by
  simp only [laws_eqLineS.f, if_true]
  refine loop_list l (fun p s => Ev (fun k => laws_eqLineS.l0 k l l (p.length : Int)) true) ?_ ?_
  · refine Ev.step (fun k => by rw [laws_eqLineS.l0]) ?_
    simp only [if_neg (nlt_self l)]
    exact Ev.now _
  · intro p x s he ih
    refine Ev.step (fun k => by rw [laws_eqLineS.l0]) ?_
    simp only [if_pos (mid_lt he), if_pos (nat_nn p.length), laws_eqLine.f, if_true, Option.bind_some, mid_next he (by omega)]
    exact ih
/-- Structs that hold the numbers from m on. -/
def numsLine (m : Int) : Nat → List S78
  | 0 => []
  | n + 1 => ⟨m, m + 1⟩ :: numsLine (m + 2) n
theorem numsLine_length (n : Nat) : ∀ m, (numsLine m n).length = n := by
  induction n with
  | zero => intro m; rfl
  | succ n ih => intro m; simp [numsLine, ih]
theorem markLineS (l : List S78) (m : Int) (hm : 0 ≤ m) (hb : m ≤ 1000000000000) (h : l.length ≤ 9000000000000) : Ev (fun k => laws_markLineS.f k l m) (m + 2 * (l.length : Int), numsLine m l.length) := by
  have H : ∀ (t a : List S78) (m : Int), 0 ≤ m → m + 2 * (t.length : Int) ≤ 1000000000000000 → a.length + t.length ≤ 9000000000000 → Ev (fun k => laws_markLineS.l0 k (a ++ t) m (a.length : Int)) (m + 2 * (t.length : Int), a ++ numsLine m t.length) := by
    intro t
    induction t with
    | nil =>
      intro a m hm hb ha
      refine Ev.step (fun k => by rw [laws_markLineS.l0]) ?_
      simp only [List.append_nil, if_neg (nlt_self a), List.length_nil, numsLine]
      exact ev_eq (Ev.now _) (by simp)
    | cons x t ih =>
      intro a m hm hb ha
      simp only [List.length_cons] at hb ha
      refine Ev.step (fun k => by rw [laws_markLineS.l0]) ?_
      have e : ((a.length : Int) < ((a ++ x :: t).length : Int)) := by simp; omega
      simp only [if_pos e, if_pos (nat_nn a.length), set_mid, Option.bind_some, rd_T78, get_mid, w64 (x := m + 1) (by omega) (by omega), w64 (x := m + 2) (by omega) (by omega), (show m + 1 + 1 = m + 2 from by omega), w64 (x := (a.length : Int) + 1) (by omega) (by omega)]
      have := ih (a ++ [⟨m, m + 1⟩]) (m + 2) (by omega) (by omega) (by simp; omega)
      simp only [List.append_assoc, List.singleton_append, List.length_append, List.length_singleton] at this
      rw [show ((a.length + 1 : Nat) : Int) = (a.length : Int) + 1 by omega] at this
      refine ev_eq this ?_
      simp only [List.length_cons, numsLine, Prod.mk.injEq, and_true]
      omega
  have := H l [] m hm (by omega) (by simpa using h)
  simpa [laws_markLineS.f] using this
theorem eqInt64S (l : List Int) (h : l.length ≤ 9000000000000000000) : Ev (fun k => laws_eqInt64S.f k l l) true := by
  simp only [laws_eqInt64S.f, if_true]
  refine loop_list l (fun p s => Ev (fun k => laws_eqInt64S.l0 k l l (p.length : Int)) true) ?_ ?_
  · refine Ev.step (fun k => by rw [laws_eqInt64S.l0]) ?_
    simp only [if_neg (nlt_self l)]
    exact Ev.now _
  · intro p x s he ih
    refine Ev.step (fun k => by rw [laws_eqInt64S.l0]) ?_
    simp only [if_pos (mid_lt he), if_pos (nat_nn p.length), if_true, mid_next he (by omega)]
    exact ih
/-- The numbers from m on. -/
def numsI (m : Int) : Nat → List Int
  | 0 => []
  | n + 1 => m :: numsI (m + 1) n
theorem numsI_length (n : Nat) : ∀ m, (numsI m n).length = n := by
  induction n with
  | zero => intro m; rfl
  | succ n ih => intro m; simp [numsI, ih]
theorem markInt64S (l : List Int) (m : Int) (hm : 0 ≤ m) (hb : m ≤ 1000000000000) (h : l.length ≤ 9000000000000) : Ev (fun k => laws_markInt64S.f k l m) (m + (l.length : Int), numsI m l.length) := by
  have H : ∀ (t a : List Int) (m : Int), 0 ≤ m → m + (t.length : Int) ≤ 1000000000000000 → a.length + t.length ≤ 9000000000000 → Ev (fun k => laws_markInt64S.l0 k (a ++ t) m (a.length : Int)) (m + (t.length : Int), a ++ numsI m t.length) := by
    intro t
    induction t with
    | nil =>
      intro a m hm hb ha
      refine Ev.step (fun k => by rw [laws_markInt64S.l0]) ?_
      simp only [List.append_nil, if_neg (nlt_self a), List.length_nil, numsI]
      exact ev_eq (Ev.now _) (by simp)
    | cons x t ih =>
      intro a m hm hb ha
      simp only [List.length_cons] at hb ha
      refine Ev.step (fun k => by rw [laws_markInt64S.l0]) ?_
      have e : ((a.length : Int) < ((a ++ x :: t).length : Int)) := by simp; omega
      simp only [if_pos e, if_pos (nat_nn a.length), set_mid, w64 (x := m + 1) (by omega) (by omega), w64 (x := (a.length : Int) + 1) (by omega) (by omega)]
      have := ih (a ++ [m]) (m + 1) (by omega) (by omega) (by simp; omega)
      simp only [List.append_assoc, List.singleton_append, List.length_append, List.length_singleton] at this
      rw [show ((a.length + 1 : Nat) : Int) = (a.length : Int) + 1 by omega] at this
      refine ev_eq this ?_
      simp only [List.length_cons, numsI, Prod.mk.injEq, and_true]
      omega
  have := H l [] m hm (by omega) (by simpa using h)
  simpa [laws_markInt64S.f] using this
theorem heldInt64S (n : Nat) (m : Int) (hm : 0 ≤ m) (hb : m + (n : Int) ≤ 1000000000000000) : Ev (fun k => laws_heldInt64S.f k (numsI m n) m) (m + (n : Int)) := by
  have H := loop_list (numsI m n) (fun p s => ∀ q : Int, 0 ≤ q → q + (s.length : Int) ≤ 1000000000000000 → s = numsI q s.length → Ev (fun k => laws_heldInt64S.l0 k (numsI m n) q (p.length : Int)) (q + (s.length : Int))) ?_ ?_
  · have := H m hm (by rw [numsI_length]; omega) (by rw [numsI_length])
    rw [numsI_length] at this
    exact this
  · intro q h0 h1 hs
    refine Ev.step (fun k => by rw [laws_heldInt64S.l0]) ?_
    simp only [if_neg (nlt_self (numsI m n))]
    exact ev_eq (Ev.now _) (by simp)
  · intro p x s he ih q h0 h1 hs
    simp only [List.length_cons] at h1 hs
    rw [numsI] at hs
    obtain ⟨rfl, hs⟩ := List.cons.inj hs
    refine Ev.step (fun k => by rw [laws_heldInt64S.l0]) ?_
    have hl : (numsI m n).length ≤ 1000000000000000 := by rw [numsI_length]; omega
    have hx : rd (numsI m n) (p.length : Int) = x := mid_get he 0
    simp only [if_pos (mid_lt he), if_pos (nat_nn p.length), hx, if_true, mid_next he (by omega), w64 (x := x + 1) (by omega) (by omega)]
    refine ev_eq (ih (x + 1) (by omega) (by omega) hs) ?_
    simp only [List.length_cons]
    omega
def inR (a lo hi : Int) : Bool := decide (lo ≤ a) && decide (a ≤ hi)
theorem inR_iff {a lo hi : Int} : inR a lo hi = true ↔ lo ≤ a ∧ a ≤ hi := by simp [inR]
theorem l01In (a lo hi : Int) : spec_l01In.f a lo hi = some (inR a lo hi) := by
  unfold spec_l01In.f inR
  split
  · rename_i h; rw [decide_eq_true (show lo ≤ a from h), Bool.true_and]
  · rename_i h; rw [decide_eq_false (show ¬ lo ≤ a from h), Bool.false_and]
theorem inRange (a lo hi : Int) : impl_inRange.f a lo hi = some (inR a lo hi) := by
  unfold impl_inRange.f inR
  split
  · rename_i h; rw [decide_eq_true (show lo ≤ a from h), Bool.true_and]
  · rename_i h; rw [decide_eq_false (show ¬ lo ≤ a from h), Bool.false_and]
def okLine (x : S78) : Bool := inR x.f0 0 1000000 && inR x.f1 0 1000000
theorem spec_IsBill (l : List S78) (h : l.length ≤ 1048576) : Ev (fun k => spec_IsBill.f k l) (l.all okLine && decide (l.length ≤ 40)) := by
  refine loop_list l (fun p s => Ev (fun k => spec_IsBill.l0 k l (p.length : Int)) (s.all okLine && decide (l.length ≤ 40))) ?_ ?_
  · refine Ev.step (fun k => by rw [spec_IsBill.l0]) ?_
    simp only [if_neg (nlt_self l), List.all_nil, Bool.true_and]
    exact ev_eq (Ev.now _) (decide_eq_decide.2 (by omega))
  · intro p x s he ih
    refine Ev.step (fun k => by rw [spec_IsBill.l0]) ?_
    simp only [if_pos (mid_lt he), if_pos (nat_nn p.length), mid_next he (by omega), rd_T78, mid_get he, l01In, Option.bind_some, List.all_cons]
    cases h0 : inR x.f0 0 1000000 <;> cases h1 : inR x.f1 0 1000000 <;> simp [okLine, h0, h1] <;> first | exact Ev.now _ | simpa [mid_next he (by omega)] using ih
theorem impl_IsBill_1_ok (x : S78) : impl_IsBill_1.f x.f0 x.f1 = some (!(okLine x)) := by
  simp only [impl_IsBill_1.f, impl_isRun.f, impl_isPrice.f, inRange, Option.bind_some, okLine]
  cases inR x.f0 0 1000000 <;> cases inR x.f1 0 1000000 <;> rfl
theorem contains_impl_IsBill_1 (l : List S78) (h : l.length ≤ 1048576) : Ev (fun k => slices_ContainsFunc_at_impl_IsBill_1.f k l) (!(l.all okLine)) := by
  have H := loop_list l (fun p s => ∃ r, Ev (fun k => slices_IndexFunc_at_impl_IsBill_1.l0 k l (l.length : Int) (p.length : Int)) r ∧ decide (r ≥ 0) = !(s.all okLine)) ?_ ?_
  · obtain ⟨r, hr, e⟩ := H
    rw [← e]
    exact Ev.bind hr (Ev.now _)
  · refine ⟨-1, Ev.step (fun k => by rw [slices_IndexFunc_at_impl_IsBill_1.l0]) ?_, by simp⟩
    simp only [if_neg (nlt_self l)]
    exact Ev.now _
  · rintro p x s he ⟨r, ih, e⟩
    by_cases hx : okLine x = true
    · refine ⟨r, Ev.step (fun k => by rw [slices_IndexFunc_at_impl_IsBill_1.l0]) ?_, by rw [e]; simp [hx]⟩
      simp only [if_pos (mid_lt he), if_pos (nat_nn p.length), rd_T78, mid_get he, impl_IsBill_1_ok, hx, Option.bind_some, mid_next he (by omega)]
      exact ih
    · refine ⟨(p.length : Int), Ev.step (fun k => by rw [slices_IndexFunc_at_impl_IsBill_1.l0]) ?_, by simp [hx]⟩
      simp only [if_pos (mid_lt he), if_pos (nat_nn p.length), rd_T78, mid_get he, impl_IsBill_1_ok, Bool.eq_false_iff.2 hx, Option.bind_some]
      exact Ev.now _
theorem impl_IsBill (l : List S78) (h : l.length ≤ 1048576) : Ev (fun k => impl_IsBill.f k l) (l.all okLine && decide (l.length ≤ 40)) := by
  simp only [impl_IsBill.f]
  by_cases hl : (l.length : Int) ≤ 40
  · simp only [if_pos hl]
    exact ev_eq (Ev.bind (contains_impl_IsBill_1 l h) (Ev.now _)) (by simp [show l.length ≤ 40 by omega])
  · simp only [if_neg hl]
    exact ev_eq (Ev.now _) (by simp [show ¬ l.length ≤ 40 by omega])

theorem both_VarianceOf (a b : List S78) (ha : a.length ≤ 1048576) (hb : b.length ≤ 1048576) : ∃ r, Ev (fun k => spec_VarianceOf.f k a b) r ∧ Ev (fun k => impl_VarianceOf.f k a b) r ∧ r.1.length ≤ 1048576 := by
  simp only [spec_VarianceOf.f, impl_VarianceOf.f]
  have bad : ∀ g g' : Nat → Option (List Int × Int), Ev (fun k => spec_VarianceOf.j0 k a b true) ([], 1) ∧ Ev (fun k => impl_VarianceOf.j0 k a b true) ([], 1) := by
    intro _ _
    exact ⟨Ev.step (fun k => by rw [spec_VarianceOf.j0, if_pos rfl]) (Ev.now _), Ev.step (fun k => by rw [impl_VarianceOf.j0, if_pos rfl]) (Ev.now _)⟩
  obtain ⟨b1, b2⟩ := bad (fun _ => none) (fun _ => none)
  cases h1 : (a.all okLine && decide (a.length ≤ 40))
  · refine ⟨([], 1), Ev.bind (ev_eq (spec_IsBill a ha) h1) ?_, Ev.bind (ev_eq (impl_IsBill a ha) h1) ?_, by simp⟩ <;> simp only [Bool.false_eq_true, if_false]
    · exact b1
    · exact b2
  · cases h2 : (b.all okLine && decide (b.length ≤ 40))
    · refine ⟨([], 1), Ev.bind (ev_eq (spec_IsBill a ha) h1) ?_, Ev.bind (ev_eq (impl_IsBill a ha) h1) ?_, by simp⟩ <;> simp only [if_true]
      · exact Ev.bind (ev_eq (spec_IsBill b hb) h2) b1
      · exact Ev.bind (ev_eq (impl_IsBill b hb) h2) b2
    · by_cases hl : (a.length : Int) = (b.length : Int)
      · have hl' : a.length = b.length := by omega
        obtain ⟨r, g1, g2, g3⟩ : ∃ r, Ev (fun k => spec_VarianceOf.l0 k a b [] 0) r ∧ Ev (fun k => impl_VarianceOf.l0 k a [] b (b.length : Int) 0) r ∧ r.1.length ≤ 1048576 := by
          refine loop_list a (fun p s => ∀ acc : List Int, acc.length = p.length → ∃ r, Ev (fun k => spec_VarianceOf.l0 k a b acc (p.length : Int)) r ∧ Ev (fun k => impl_VarianceOf.l0 k a acc b (b.length : Int) (p.length : Int)) r ∧ r.1.length ≤ 1048576) ?_ ?_ [] rfl
          · intro acc hacc
            refine ⟨(acc, 0), Ev.step (fun k => by rw [spec_VarianceOf.l0]) ?_, Ev.step (fun k => by rw [impl_VarianceOf.l0]) ?_, by simp only [hacc]; exact ha⟩
            · simp only [if_neg (nlt_self a)]
              exact Ev.now _
            · simp only [if_neg (show ¬ (a.length : Int) < (b.length : Int) by omega)]
              exact Ev.now _
          · intro p x s he ih acc hacc
            have hp := mid_lt he
            have := ih (acc ++ [wrap64 (wrap64 ((rd_T78 b (p.length : Int)).f0 * (rd_T78 b (p.length : Int)).f1) - wrap64 ((rd_T78 a (p.length : Int)).f0 * (rd_T78 a (p.length : Int)).f1))]) (by simp [hacc])
            obtain ⟨r, g1, g2, g3⟩ := this
            refine ⟨r, Ev.step (fun k => by rw [spec_VarianceOf.l0]) ?_, Ev.step (fun k => by rw [impl_VarianceOf.l0]) ?_, g3⟩
            · simp only [if_pos hp, if_pos (nat_nn p.length), if_pos (show (p.length : Int) < (b.length : Int) by omega), if_pos (show acc.length < 17592186044416 by omega), mid_next he (by omega)]
              exact g1
            · simp only [if_pos hp, if_pos (nat_nn p.length), if_pos (show (p.length : Int) < (b.length : Int) by omega), if_pos (show acc.length < 17592186044416 by omega), mid_next he (by omega)]
              exact g2
        refine ⟨r, Ev.bind (ev_eq (spec_IsBill a ha) h1) ?_, Ev.bind (ev_eq (impl_IsBill a ha) h1) ?_, g3⟩ <;> simp only [if_true]
        · refine Ev.bind (ev_eq (spec_IsBill b hb) h2) (Ev.step (fun k => by rw [spec_VarianceOf.j0]) ?_)
          simp only [Bool.not_true, Bool.false_eq_true, if_false, if_pos hl]
          exact g1
        · refine Ev.bind (ev_eq (impl_IsBill b hb) h2) (Ev.step (fun k => by rw [impl_VarianceOf.j0]) ?_)
          simp only [Bool.not_true, Bool.false_eq_true, if_false, if_pos hl]
          exact g2
      · refine ⟨([], 5), Ev.bind (ev_eq (spec_IsBill a ha) h1) ?_, Ev.bind (ev_eq (impl_IsBill a ha) h1) ?_, by simp⟩ <;> simp only [if_true]
        · refine Ev.bind (ev_eq (spec_IsBill b hb) h2) (Ev.step (fun k => by rw [spec_VarianceOf.j0]) ?_)
          simp only [Bool.not_true, Bool.false_eq_true, if_false, if_neg hl]
          exact Ev.now _
        · refine Ev.bind (ev_eq (impl_IsBill b hb) h2) (Ev.step (fun k => by rw [impl_VarianceOf.j0]) ?_)
          simp only [Bool.not_true, Bool.false_eq_true, if_false, if_neg hl]
          exact Ev.now _
theorem FnExactVarianceOf : laws_FnExactVarianceOf.Pure := by
  intro a b hla hwa hlb hwb
  refine Ev.rounds (g := fun k => laws_FnExactVarianceOf.f k a b) ?_
  simp only [laws_FnExactVarianceOf.f, szLine a 1048576 (by omega) (by omega) (by omega), Option.bind_some]
  by_cases hs : (1048576 : Int) - a.length < 0
  · simp only [if_pos hs]
    exact Ev.now _
  · simp only [if_neg hs, szLine b (1048576 - a.length) (by omega) (by omega) (by omega), Option.bind_some]
    by_cases hs2 : (1048576 : Int) - a.length - b.length < 0
    · simp only [if_pos hs2]
      exact Ev.now _
    · simp only [if_neg hs2]
      have h0 : a.length ≤ 1048576 := by omega
      have h0' : b.length ≤ 1048576 := by omega
      have hm : (a.map cvLine).length ≤ 1048576 := by simpa using h0
      have hm' : (b.map cvLine).length ≤ 1048576 := by simpa using h0'
      obtain ⟨r, h1, h2, hr⟩ := both_VarianceOf (a.map cvLine) (b.map cvLine) hm hm'
      have e0 : ¬ (1 + (r.1.length : Int) < 0) := by omega
      refine Ev.bind (toLineS a h0) ?_
      refine Ev.bind (toLineS b h0') ?_
      refine Ev.bind h1 ?_
      refine Ev.bind (toLineS a h0) ?_
      refine Ev.bind (toLineS b h0') ?_
      refine Ev.bind h2 ?_
      refine Ev.bind (eqInt64S _ (by omega)) ?_
      simp only [if_true, bne_self_eq_false]
      refine Ev.step (fun k => by rw [laws_FnExactVarianceOf.j0]) ?_
      simp only [Bool.false_eq_true, if_false]
      refine Ev.bind (toLineS a h0) ?_
      refine Ev.bind (eqLineS _ (by omega)) ?_
      simp only [if_true]
      refine Ev.bind (toLineS b h0') ?_
      refine Ev.bind (eqLineS _ (by omega)) ?_
      simp only [if_true]
      refine Ev.bind (markLineS _ 1 (by omega) (by omega) (by omega)) ?_
      refine Ev.bind (markLineS _ _ (by omega) (by omega) (by omega)) ?_
      simp only [if_neg (show ¬ (1 + 2 * ((a.map cvLine).length : Int) + 2 * ((b.map cvLine).length : Int) < 0) by omega)]
      refine Ev.bind (eqInt64S _ (by omega)) ?_
      simp only [if_true, bne_self_eq_false]
      refine Ev.step (fun k => by rw [laws_FnExactVarianceOf.j1]) ?_
      simp only [Bool.false_eq_true, if_false]
      refine Ev.bind (markInt64S _ 1 (by omega) (by omega) (by omega)) ?_
      refine Ev.bind (heldInt64S _ 1 (by omega) (by omega)) ?_
      simp only [if_neg e0, if_true]
      refine Ev.bind (toLineS a h0) ?_
      refine Ev.bind (toLineS b h0') ?_
      refine Ev.bind h2 ?_
      refine Ev.bind (eqInt64S _ (by omega)) ?_
      simp only [if_true, bne_self_eq_false]
      refine Ev.step (fun k => by rw [laws_FnExactVarianceOf.j2]) ?_
      simp only [Bool.false_eq_true, if_false]
      refine Ev.bind (heldInt64S _ 1 (by omega) (by omega)) ?_
      simp only [if_neg e0, if_true]
      exact Ev.now _

end Go.Proofs.Ythfgdcnngklfoaa.Pure
