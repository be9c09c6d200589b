/- The pure statement of law FnExactOpenCopies: what the printed functions compute answers true at every input. No condition. -/
import Derived.Test.YtmdjdocagccljaaPFnExactOpenCopiesx3
set_option linter.unusedVariables false
set_option linter.unusedSimpArgs false
namespace Go.Proofs.Ytmdjdocagccljaa.Pure
open Go.RowKit Go.Proofs.Ytmdjdocagccljaa.PFnExactOpenCopies Go.Proofs.YtmdjdocagccljaaW.PrintWords Go.Proofs.YtmdjdocagccljaaW.PrintLast Go.Proofs.YtmdjdocagccljaaW.PrintMore


/-! #### Numbers and rounds -/
theorem w64 {x : Int} (h1 : -9223372036854775808 ≤ x) (h2 : x ≤ 9223372036854775807) : wrap64 x = x := by
  unfold wrap64
  omega
theorem wf64 {x : Int} (h : (Lit.int .i64 x).wf = true) : -9223372036854775808 ≤ x ∧ x ≤ 9223372036854775807 := by
  simp only [Lit.wf, IntKind.min, IntKind.max, IntKind.signed, IntKind.bits, Bool.and_eq_true, decide_eq_true_eq, if_true] at h
  omega
theorem ev_of {α : Type} {g : Nat → Option α} {r : α} (h : ∀ k, g k = some r) : Ev g r := ⟨0, fun k _ => h k⟩
theorem ev_eq {α : Type} {g : Nat → Option α} {r r' : α} (h : Ev g r) (e : r = r') : Ev g r' := e ▸ h
/-- A loop over a list: what lies behind, what lies ahead. -/
theorem loop_list {α : Type} (l : List α) (Q : List α → List α → Prop) (h0 : Q l []) (hs : ∀ p x s, l = p ++ x :: s → Q (p ++ [x]) s → Q p (x :: s)) : Q [] l := by
  have h : ∀ s p, l = p ++ s → Q p s := by
    intro s
    induction s with
    | nil => intro p hp; rw [List.append_nil] at hp; rw [← hp]; exact h0
    | cons x s ih => intro p hp; exact hs p x s hp (ih (p ++ [x]) (by simp [hp]))
  exact h l [] rfl
theorem mid_lt {α : Type} {l p s : List α} {x : α} (h : l = p ++ x :: s) : (p.length : Int) < (l.length : Int) := by
  rw [h, List.length_append, List.length_cons]; omega
theorem mid_next {α : Type} {l p s : List α} {x : α} (h : l = p ++ x :: s) (hl : l.length ≤ 9223372036854775807) : wrap64 ((p.length : Int) + 1) = ((p ++ [x]).length : Int) := by
  have := mid_lt h
  rw [w64 (by omega) (by omega), List.length_append]; simp
theorem mid_get {α : Type} {l p s : List α} {x : α} (h : l = p ++ x :: s) (z : α) : l.getD (p.length : Int).toNat z = x := by
  rw [h]; simp
theorem get_mid {α : Type} (p s : List α) (x z : α) : (p ++ x :: s).getD (p.length : Int).toNat z = x := by simp
theorem nat_nn (n : Nat) : (0 : Int) ≤ (n : Int) := by omega
theorem nlt_self {α : Type} (l : List α) : ¬ ((l.length : Int) < (l.length : Int)) := by omega
theorem set_mid {α : Type} (p s : List α) (x y : α) : (p ++ x :: s).set ((p.length : Int).toNat) y = p ++ y :: s := by
  rw [Int.toNat_natCast, List.set_append_right _ _ (Nat.le_refl _)]; simp
theorem nil_or_snoc {α : Type} (p : List α) : p = [] ∨ ∃ q y, p = q ++ [y] := by
  rcases List.eq_nil_or_concat p with h | ⟨q, y, h⟩
  · exact .inl h
  · exact .inr ⟨q, y, by rw [h, List.concat_eq_append]⟩
theorem szOrder (l : List S82) (a : Int) (ha : 0 ≤ a) (hb : a ≤ 1048576) (h : l.length ≤ 9000000000000000000) : laws_szOrderS.f l a = some (if a - l.length < 0 then (-1 : Int) else a - l.length) := by
  unfold laws_szOrderS.f
  rw [w64 (by omega) (by omega)]
  split <;> rfl
def cvOrder (x : S82) : S80 := ⟨x.f0, x.f1, x.f2, x.f3⟩
theorem toOrderS (l : List S82) (h : l.length ≤ 1048576) : Ev (fun k => laws_toOrderS.f k l) (l.map cvOrder) := by
  have H := loop_list l (fun p s => ∀ (a t : List S80), a.length = p.length → t.length = s.length → Ev (fun k => laws_toOrderS.l0 k l (a ++ t) (p.length : Int)) (a ++ s.map cvOrder)) ?_ ?_
  · have := H [] (List.replicate l.length z80) rfl (by simp)
    simp only [laws_toOrderS.f, Int.toNat_natCast, if_pos (nat_nn l.length)]
    rw [show (fun k => if l.length ≤ _ then _ else _) = (fun k => laws_toOrderS.l0 k l (List.replicate l.length z80) 0) from funext fun k => if_pos (by omega)]
    simpa using this
  · intro a t ha ht
    refine Ev.step (fun k => by rw [laws_toOrderS.l0]) ?_
    simp only [if_neg (nlt_self l)]
    have : t = [] := List.eq_nil_of_length_eq_zero (by simpa using ht)
    subst this
    exact Ev.now _
  · intro p x s he ih a t ha ht
    obtain ⟨y, t, rfl⟩ : ∃ y t', t = y :: t' := by cases t with | nil => simp at ht | cons y t => exact ⟨y, t, rfl⟩
    refine Ev.step (fun k => by rw [laws_toOrderS.l0]) ?_
    have e : ((p.length : Int) < ((a ++ y :: t).length : Int)) := by simp; omega
    have e2 := set_mid a t y (cvOrder x)
    rw [ha] at e2
    simp only [if_pos (mid_lt he), if_pos (nat_nn p.length), laws_toOrder.f, Option.bind_some, if_pos e, mid_next he (by omega), rd_T82, mid_get he]
    have := ih (a ++ [cvOrder x]) t (by simp [ha]) (by simpa using ht)
    simp only [cvOrder, List.append_assoc, List.singleton_append, List.map_cons] at this e2 ⊢
    rw [e2]
    exact this
theorem eqOrderS (l : List S80) (h : l.length ≤ 9000000000000000000) : Ev (fun k => laws_eqOrderS.f k l l) true := by
  simp only [laws_eqOrderS.f, if_true]
  refine loop_list l (fun p s => Ev (fun k => laws_eqOrderS.l0 k l l (p.length : Int)) true) ?_ ?_
  · refine Ev.step (fun k => by rw [laws_eqOrderS.l0]) ?_
    simp only [if_neg (nlt_self l)]
    exact Ev.now _
  · intro p x s he ih
    refine Ev.step (fun k => by rw [laws_eqOrderS.l0]) ?_
    simp only [if_pos (mid_lt he), if_pos (nat_nn p.length), laws_eqOrder.f, if_true, Option.bind_some, mid_next he (by omega)]
    exact ih
def inR (a lo hi : Int) : Bool := decide (lo ≤ a) && decide (a ≤ hi)
theorem inR_iff {a lo hi : Int} : inR a lo hi = true ↔ lo ≤ a ∧ a ≤ hi := by simp [inR]
theorem l01In (a lo hi : Int) : spec_l01In.f a lo hi = some (inR a lo hi) := by
  unfold spec_l01In.f inR
  split
  · rename_i h; rw [decide_eq_true (show lo ≤ a from h), Bool.true_and]
  · rename_i h; rw [decide_eq_false (show ¬ lo ≤ a from h), Bool.false_and]
theorem inRange (a lo hi : Int) : impl_inRange.f a lo hi = some (inR a lo hi) := by
  unfold impl_inRange.f inR
  split
  · rename_i h; rw [decide_eq_true (show lo ≤ a from h), Bool.true_and]
  · rename_i h; rw [decide_eq_false (show ¬ lo ≤ a from h), Bool.false_and]
def okOrder (x : S80) : Bool := inR x.f0 1 1000000000 && (inR x.f1 1 1000000 && (inR x.f2 0 100000 && inR x.f3 0 5))
def bookFrom (q : Option Int) : List S80 → Bool
  | [] => true
  | x :: s => okOrder x && ((match q with | none => true | some y => decide (y < x.f0)) && bookFrom (some x.f0) s)
def bookB (l : List S80) : Bool := bookFrom none l && decide (l.length ≤ 50)
theorem last_of {l p s : List S80} {x y : S80} (he : l = (p ++ [y]) ++ x :: s) (z : S80) : l.getD (((p ++ [y]).length : Int) - 1).toNat z = y := by
  rw [he, show (((p ++ [y]).length : Int) - 1).toNat = p.length by simp]
  simp
theorem spec_IsOrderBook (l : List S80) (h : l.length ≤ 1048576) : Ev (fun k => spec_IsOrderBook.f k l) (bookB l) := by
  refine loop_list l (fun p s => Ev (fun k => spec_IsOrderBook.l0 k l (p.length : Int)) (bookFrom (p.getLast?.map fun x => x.f0) s && decide (l.length ≤ 50))) ?_ ?_
  · refine Ev.step (fun k => by rw [spec_IsOrderBook.l0]) ?_
    simp only [if_neg (nlt_self l), bookFrom, Bool.true_and]
    exact ev_eq (Ev.now _) (decide_eq_decide.2 (by omega))
  · intro p x s he ih
    have J1 : Ev (fun k => spec_IsOrderBook.j1 k l (p.length : Int) true x.f0 x.f1 x.f2 x.f3) false := by
      refine Ev.step (fun k => by rw [spec_IsOrderBook.j1]) ?_
      simp only [if_true]
      exact Ev.now _
    simp only [List.getLast?_append, List.getLast?_singleton, Option.some_or, Option.map_some] at ih
    have J2 : Ev (fun k => spec_IsOrderBook.j1 k l (p.length : Int) false x.f0 x.f1 x.f2 x.f3) (((match p.getLast?.map (fun x => x.f0) with | none => true | some y => decide (y < x.f0)) && bookFrom (some x.f0) s) && decide (l.length ≤ 50)) := by
      refine Ev.step (fun k => by rw [spec_IsOrderBook.j1]) ?_
      simp only [Bool.false_eq_true, if_false, mid_next he (by omega)]
      rcases nil_or_snoc p with rfl | ⟨p', y, rfl⟩
      · simp only [List.length_nil, show ¬ (((0 : Nat) : Int) > 0) by omega, if_false, List.getLast?_nil, Option.map_none, Bool.true_and]
        exact ih
      · have hl := mid_lt he
        have e1 : wrap64 (((p' ++ [y]).length : Int) - 1) = ((p' ++ [y]).length : Int) - 1 := w64 (by omega) (by omega)
        have e2 : 0 < ((p' ++ [y]).length : Int) := by simp
        simp only [if_pos (show ((p' ++ [y]).length : Int) > 0 from e2), e1, if_pos (show 0 ≤ ((p' ++ [y]).length : Int) - 1 by omega), if_pos (show ((p' ++ [y]).length : Int) - 1 < (l.length : Int) by omega), rd_T80, last_of he, List.getLast?_append, List.getLast?_singleton, Option.some_or, Option.map_some]
        by_cases hy : x.f0 ≤ y.f0
        · simp only [if_pos hy]
          exact ev_eq (Ev.now _) (by rw [decide_eq_false (show ¬ y.f0 < x.f0 by omega)]; rfl)
        · simp only [if_neg hy, decide_eq_true (show y.f0 < x.f0 by omega), Bool.true_and]
          exact ih
    refine Ev.step (fun k => by rw [spec_IsOrderBook.l0]) ?_
    simp only [if_pos (mid_lt he), if_pos (nat_nn p.length), rd_T80, mid_get he, l01In, Option.bind_some, bookFrom]
    cases h0 : inR x.f0 1 1000000000 <;> cases h1 : inR x.f1 1 1000000 <;> cases h2 : inR x.f2 0 100000 <;> cases h3 : inR x.f3 0 5 <;> simp only [okOrder, h0, h1, h2, h3, Bool.and_false, Bool.false_and, Bool.and_true, Bool.true_and, Bool.false_eq_true, if_true, if_false, Bool.not_true, Bool.not_false] <;> first | exact J1 | exact J2
theorem impl_IsOrderBook (l : List S80) (h : l.length ≤ 1048576) : Ev (fun k => impl_IsOrderBook.f k l) (bookB l) := by
  simp only [impl_IsOrderBook.f]
  by_cases hlen : (l.length : Int) > 50
  · simp only [if_pos hlen]
    exact ev_eq (Ev.now _) (by simp [bookB, show ¬ l.length ≤ 50 by omega])
  · simp only [if_neg hlen]
    refine ev_eq (r := bookFrom none l) ?_ (by simp [bookB, show l.length ≤ 50 by omega])
    refine loop_list l (fun p s => Ev (fun k => impl_IsOrderBook.l0 k l l (l.length : Int) (p.length : Int)) (bookFrom (p.getLast?.map fun x => x.f0) s)) ?_ ?_
    · refine Ev.step (fun k => by rw [impl_IsOrderBook.l0]) ?_
      simp only [if_neg (nlt_self l), bookFrom]
      exact Ev.now _
    · intro p x s he ih
      have J1 : Ev (fun k => impl_IsOrderBook.j1 k l (p.length : Int) l (l.length : Int) (p.length : Int) true x.f0 x.f1 x.f2 x.f3) false := by
        refine Ev.step (fun k => by rw [impl_IsOrderBook.j1]) ?_
        simp only [if_true]
        exact Ev.now _
      simp only [List.getLast?_append, List.getLast?_singleton, Option.some_or, Option.map_some] at ih
      have J2 : Ev (fun k => impl_IsOrderBook.j1 k l (p.length : Int) l (l.length : Int) (p.length : Int) false x.f0 x.f1 x.f2 x.f3) ((match p.getLast?.map (fun x => x.f0) with | none => true | some y => decide (y < x.f0)) && bookFrom (some x.f0) s) := by
        refine Ev.step (fun k => by rw [impl_IsOrderBook.j1]) ?_
        simp only [Bool.false_eq_true, if_false, mid_next he (by omega)]
        rcases nil_or_snoc p with rfl | ⟨p', y, rfl⟩
        · simp only [List.length_nil, show ¬ (((0 : Nat) : Int) > 0) by omega, if_false, List.getLast?_nil, Option.map_none, Bool.true_and]
          exact ih
        · have hl := mid_lt he
          have e1 : wrap64 (((p' ++ [y]).length : Int) - 1) = ((p' ++ [y]).length : Int) - 1 := w64 (by omega) (by omega)
          have e2 : 0 < ((p' ++ [y]).length : Int) := by simp
          simp only [if_pos (show ((p' ++ [y]).length : Int) > 0 from e2), e1, if_pos (show 0 ≤ ((p' ++ [y]).length : Int) - 1 by omega), if_pos (show ((p' ++ [y]).length : Int) - 1 < (l.length : Int) by omega), rd_T80, last_of he, List.getLast?_append, List.getLast?_singleton, Option.some_or, Option.map_some]
          by_cases hy : y.f0 ≥ x.f0
          · simp only [if_pos hy]
            exact ev_eq (Ev.now _) (by rw [decide_eq_false (show ¬ y.f0 < x.f0 by omega)]; rfl)
          · simp only [if_neg hy, decide_eq_true (show y.f0 < x.f0 by omega), Bool.true_and]
            exact ih
      refine Ev.step (fun k => by rw [impl_IsOrderBook.l0]) ?_
      simp only [if_pos (mid_lt he), if_pos (nat_nn p.length), rd_T80, mid_get he, impl_isMinutes.f, inRange, Option.bind_some, bookFrom]
      cases h0 : inR x.f0 1 1000000000 <;> cases h1 : inR x.f1 1 1000000 <;> cases h2 : inR x.f2 0 100000 <;> cases h3 : inR x.f3 0 5 <;> simp only [okOrder, h0, h1, h2, h3, Bool.and_false, Bool.false_and, Bool.and_true, Bool.true_and, Bool.false_eq_true, if_true, if_false, Bool.not_true, Bool.not_false] <;> first | exact J1 | exact J2
theorem both_OpenCopies (l : List S80) (h : l.length ≤ 1048576) : ∃ r, Ev (fun k => spec_OpenCopies.f k l) r ∧ Ev (fun k => impl_OpenCopies.f k l) r := by
  simp only [spec_OpenCopies.f, impl_OpenCopies.f]
  cases hb : bookB l
  · refine ⟨(0, 1), Ev.bind (ev_eq (spec_IsOrderBook l h) hb) ?_, Ev.bind (ev_eq (impl_IsOrderBook l h) hb) ?_⟩ <;> simp only [Bool.false_eq_true, if_false] <;> exact Ev.now _
  · obtain ⟨r, h1, h2⟩ : ∃ r, Ev (fun k => spec_OpenCopies.l0 k l 0 0) r ∧ Ev (fun k => impl_OpenCopies.l0 k 0 l (l.length : Int) 0) r := by
      refine loop_list l (fun p s => ∀ acc, ∃ r, Ev (fun k => spec_OpenCopies.l0 k l acc (p.length : Int)) r ∧ Ev (fun k => impl_OpenCopies.l0 k acc l (l.length : Int) (p.length : Int)) r) ?_ ?_ 0
      · intro acc
        refine ⟨(acc, 0), Ev.step (fun k => by rw [spec_OpenCopies.l0]) ?_, Ev.step (fun k => by rw [impl_OpenCopies.l0]) ?_⟩ <;> simp only [if_neg (nlt_self l)] <;> exact Ev.now _
      · intro p x s he ih acc
        cases ho : decide (x.f3 < 4)
        · obtain ⟨r, h1, h2⟩ := ih acc
          refine ⟨r, Ev.step (fun k => by rw [spec_OpenCopies.l0]) ?_, Ev.step (fun k => by rw [impl_OpenCopies.l0]) ?_⟩
          · simp only [if_pos (mid_lt he), if_pos (nat_nn p.length), rd_T80, mid_get he, spec_l24Open.f, ho, Option.bind_some, mid_next he (by omega), Bool.false_eq_true, if_false]
            exact h1
          · simp only [if_pos (mid_lt he), if_pos (nat_nn p.length), rd_T80, mid_get he, impl_isOpen.f, ho, Option.bind_some, mid_next he (by omega), Bool.false_eq_true, if_false]
            exact h2
        · obtain ⟨r, h1, h2⟩ := ih (wrap64 (acc + x.f1))
          refine ⟨r, Ev.step (fun k => by rw [spec_OpenCopies.l0]) ?_, Ev.step (fun k => by rw [impl_OpenCopies.l0]) ?_⟩
          · simp only [if_pos (mid_lt he), if_pos (nat_nn p.length), rd_T80, mid_get he, spec_l24Open.f, ho, Option.bind_some, mid_next he (by omega), if_true]
            exact h1
          · simp only [if_pos (mid_lt he), if_pos (nat_nn p.length), rd_T80, mid_get he, impl_isOpen.f, ho, Option.bind_some, mid_next he (by omega), if_true]
            exact h2
    refine ⟨r, Ev.bind (ev_eq (spec_IsOrderBook l h) hb) ?_, Ev.bind (ev_eq (impl_IsOrderBook l h) hb) ?_⟩ <;> simp only [if_true]
    · exact h1
    · exact h2
theorem FnExactOpenCopies : laws_FnExactOpenCopies.Pure := by
  intro l hl hw
  refine Ev.rounds (g := fun k => laws_FnExactOpenCopies.f k l) ?_
  simp only [laws_FnExactOpenCopies.f, szOrder l 1048576 (by omega) (by omega) (by omega), Option.bind_some]
  by_cases hs : (1048576 : Int) - l.length < 0
  · simp only [if_pos hs]
    exact Ev.now _
  · simp only [if_neg hs]
    have h0 : l.length ≤ 1048576 := by omega
    have hm : (l.map cvOrder).length ≤ 1048576 := by simpa using h0
    obtain ⟨r, h1, h2⟩ := both_OpenCopies (l.map cvOrder) hm
    refine Ev.bind (toOrderS l h0) ?_
    refine Ev.bind h1 ?_
    refine Ev.bind (toOrderS l h0) ?_
    refine Ev.bind h2 ?_
    simp only [if_true, bne_self_eq_false]
    refine Ev.step (fun k => by rw [laws_FnExactOpenCopies.j0]) ?_
    simp only [Bool.false_eq_true, if_false]
    refine Ev.bind (toOrderS l h0) ?_
    refine Ev.bind (eqOrderS _ (by omega)) ?_
    simp only [if_true]
    exact Ev.now _

end Go.Proofs.Ytmdjdocagccljaa.Pure
