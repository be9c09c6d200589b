/- The pure statement of law FnExactOrdersIn: what the printed functions compute answers true at every input. No condition. -/
import Derived.Test.YthfgdcnngklfoaaPFnExactOrdersInx4
set_option linter.unusedVariables false
set_option linter.unusedSimpArgs false
namespace Go.Proofs.Ythfgdcnngklfoaa.Pure
open Go.RowKit Go.Proofs.Ythfgdcnngklfoaa.PFnExactOrdersIn Go.Proofs.YthfgdcnngklfoaaW.PrintWords Go.Proofs.YthfgdcnngklfoaaW.PrintLast Go.Proofs.YthfgdcnngklfoaaW.PrintMore


/-! #### Numbers and rounds -/
theorem w64 {x : Int} (h1 : -9223372036854775808 ≤ x) (h2 : x ≤ 9223372036854775807) : wrap64 x = x := by
  unfold wrap64
  omega
theorem wf64 {x : Int} (h : (Lit.int .i64 x).wf = true) : -9223372036854775808 ≤ x ∧ x ≤ 9223372036854775807 := by
  simp only [Lit.wf, IntKind.min, IntKind.max, IntKind.signed, IntKind.bits, Bool.and_eq_true, decide_eq_true_eq, if_true] at h
  omega
theorem ev_of {α : Type} {g : Nat → Option α} {r : α} (h : ∀ k, g k = some r) : Ev g r := ⟨0, fun k _ => h k⟩
theorem ev_eq {α : Type} {g : Nat → Option α} {r r' : α} (h : Ev g r) (e : r = r') : Ev g r' := e ▸ h
/-- A loop over a list: what lies behind, what lies ahead. -/
theorem loop_list {α : Type} (l : List α) (Q : List α → List α → Prop) (h0 : Q l []) (hs : ∀ p x s, l = p ++ x :: s → Q (p ++ [x]) s → Q p (x :: s)) : Q [] l := by
  have h : ∀ s p, l = p ++ s → Q p s := by
    intro s
    induction s with
    | nil => intro p hp; rw [List.append_nil] at hp; rw [← hp]; exact h0
    | cons x s ih => intro p hp; exact hs p x s hp (ih (p ++ [x]) (by simp [hp]))
  exact h l [] rfl
theorem mid_lt {α : Type} {l p s : List α} {x : α} (h : l = p ++ x :: s) : (p.length : Int) < (l.length : Int) := by
  rw [h, List.length_append, List.length_cons]; omega
theorem mid_next {α : Type} {l p s : List α} {x : α} (h : l = p ++ x :: s) (hl : l.length ≤ 9223372036854775807) : wrap64 ((p.length : Int) + 1) = ((p ++ [x]).length : Int) := by
  have := mid_lt h
  rw [w64 (by omega) (by omega), List.length_append]; simp
theorem mid_get {α : Type} {l p s : List α} {x : α} (h : l = p ++ x :: s) (z : α) : l.getD (p.length : Int).toNat z = x := by
  rw [h]; simp
theorem get_mid {α : Type} (p s : List α) (x z : α) : (p ++ x :: s).getD (p.length : Int).toNat z = x := by simp
theorem nat_nn (n : Nat) : (0 : Int) ≤ (n : Int) := by omega
theorem nlt_self {α : Type} (l : List α) : ¬ ((l.length : Int) < (l.length : Int)) := by omega
theorem set_mid {α : Type} (p s : List α) (x y : α) : (p ++ x :: s).set ((p.length : Int).toNat) y = p ++ y :: s := by
  rw [Int.toNat_natCast, List.set_append_right _ _ (Nat.le_refl _)]; simp
theorem nil_or_snoc {α : Type} (p : List α) : p = [] ∨ ∃ q y, p = q ++ [y] := by
  rcases List.eq_nil_or_concat p with h | ⟨q, y, h⟩
  · exact .inl h
  · exact .inr ⟨q, y, by rw [h, List.concat_eq_append]⟩
theorem loop_all {α : Type} (l : List α) (Q : List α → List α → Prop) (h0 : Q l []) (hs : ∀ p x s, l = p ++ x :: s → Q (p ++ [x]) s → Q p (x :: s)) : ∀ s p, l = p ++ s → Q p s := by
  intro s
  induction s with
  | nil => intro p hp; rw [List.append_nil] at hp; rw [← hp]; exact h0
  | cons x s ih => intro p hp; exact hs p x s hp (ih (p ++ [x]) (by simp [hp]))
theorem szOrder (l : List S103) (a : Int) (ha : 0 ≤ a) (hb : a ≤ 1048576) (h : l.length ≤ 9000000000000000000) : laws_szOrderS.f l a = some (if a - l.length < 0 then (-1 : Int) else a - l.length) := by
  unfold laws_szOrderS.f
  rw [w64 (by omega) (by omega)]
  split <;> rfl
def cvOrder (x : S103) : S101 := ⟨x.f0, x.f1, x.f2, x.f3⟩
theorem toOrderS (l : List S103) (h : l.length ≤ 1048576) : Ev (fun k => laws_toOrderS.f k l) (l.map cvOrder) := by
  have H := loop_list l (fun p s => ∀ (a t : List S101), a.length = p.length → t.length = s.length → Ev (fun k => laws_toOrderS.l0 k l (a ++ t) (p.length : Int)) (a ++ s.map cvOrder)) ?_ ?_
  · have := H [] (List.replicate l.length z101) rfl (by simp)
    simp only [laws_toOrderS.f, Int.toNat_natCast, if_pos (nat_nn l.length)]
    rw [show (fun k => if l.length ≤ _ then _ else _) = (fun k => laws_toOrderS.l0 k l (List.replicate l.length z101) 0) from funext fun k => if_pos (by omega)]
    simpa using this
  · intro a t ha ht
    refine Ev.step (fun k => by rw [laws_toOrderS.l0]) ?_
    simp only [if_neg (nlt_self l)]
    have : t = [] := List.eq_nil_of_length_eq_zero (by simpa using ht)
    subst this
    exact Ev.now _
  · intro p x s he ih a t ha ht
    obtain ⟨y, t, rfl⟩ : ∃ y t', t = y :: t' := by cases t with | nil => simp at ht | cons y t => exact ⟨y, t, rfl⟩
    refine Ev.step (fun k => by rw [laws_toOrderS.l0]) ?_
    have e : ((p.length : Int) < ((a ++ y :: t).length : Int)) := by simp; omega
    have e2 := set_mid a t y (cvOrder x)
    rw [ha] at e2
    simp only [if_pos (mid_lt he), if_pos (nat_nn p.length), laws_toOrder.f, Option.bind_some, if_pos e, mid_next he (by omega), rd_T103, mid_get he]
    have := ih (a ++ [cvOrder x]) t (by simp [ha]) (by simpa using ht)
    simp only [cvOrder, List.append_assoc, List.singleton_append, List.map_cons] at this e2 ⊢
    rw [e2]
    exact this
theorem eqOrderS (l : List S101) (h : l.length ≤ 9000000000000000000) : Ev (fun k => laws_eqOrderS.f k l l) true := by
  simp only [laws_eqOrderS.f, if_true]
  refine loop_list l (fun p s => Ev (fun k => laws_eqOrderS.l0 k l l (p.length : Int)) true) ?_ ?_
  · refine Ev.step (fun k => by rw [laws_eqOrderS.l0]) ?_
    simp only [if_neg (nlt_self l)]
    exact Ev.now _
  · intro p x s he ih
    refine Ev.step (fun k => by rw [laws_eqOrderS.l0]) ?_
    simp only [if_pos (mid_lt he), if_pos (nat_nn p.length), laws_eqOrder.f, if_true, Option.bind_some, mid_next he (by omega)]
    exact ih
/-- Structs that hold the numbers from m on. -/
def numsOrder (m : Int) : Nat → List S101
  | 0 => []
  | n + 1 => ⟨m, m + 1, m + 2, m + 3⟩ :: numsOrder (m + 4) n
theorem numsOrder_length (n : Nat) : ∀ m, (numsOrder m n).length = n := by
  induction n with
  | zero => intro m; rfl
  | succ n ih => intro m; simp [numsOrder, ih]
theorem markOrderS (l : List S101) (m : Int) (hm : 0 ≤ m) (hb : m ≤ 1000000000000) (h : l.length ≤ 9000000000000) : Ev (fun k => laws_markOrderS.f k l m) (m + 4 * (l.length : Int), numsOrder m l.length) := by
  have H : ∀ (t a : List S101) (m : Int), 0 ≤ m → m + 4 * (t.length : Int) ≤ 1000000000000000 → a.length + t.length ≤ 9000000000000 → Ev (fun k => laws_markOrderS.l0 k (a ++ t) m (a.length : Int)) (m + 4 * (t.length : Int), a ++ numsOrder m t.length) := by
    intro t
    induction t with
    | nil =>
      intro a m hm hb ha
      refine Ev.step (fun k => by rw [laws_markOrderS.l0]) ?_
      simp only [List.append_nil, if_neg (nlt_self a), List.length_nil, numsOrder]
      exact ev_eq (Ev.now _) (by simp)
    | cons x t ih =>
      intro a m hm hb ha
      simp only [List.length_cons] at hb ha
      refine Ev.step (fun k => by rw [laws_markOrderS.l0]) ?_
      have e : ((a.length : Int) < ((a ++ x :: t).length : Int)) := by simp; omega
      simp only [if_pos e, if_pos (nat_nn a.length), set_mid, Option.bind_some, rd_T101, get_mid, w64 (x := m + 1) (by omega) (by omega), w64 (x := m + 2) (by omega) (by omega), (show m + 1 + 1 = m + 2 from by omega), w64 (x := m + 3) (by omega) (by omega), (show m + 2 + 1 = m + 3 from by omega), w64 (x := m + 4) (by omega) (by omega), (show m + 3 + 1 = m + 4 from by omega), w64 (x := (a.length : Int) + 1) (by omega) (by omega)]
      have := ih (a ++ [⟨m, m + 1, m + 2, m + 3⟩]) (m + 4) (by omega) (by omega) (by simp; omega)
      simp only [List.append_assoc, List.singleton_append, List.length_append, List.length_singleton] at this
      rw [show ((a.length + 1 : Nat) : Int) = (a.length : Int) + 1 by omega] at this
      refine ev_eq this ?_
      simp only [List.length_cons, numsOrder, Prod.mk.injEq, and_true]
      omega
  have := H l [] m hm (by omega) (by simpa using h)
  simpa [laws_markOrderS.f] using this
theorem eqInt64S (l : List Int) (h : l.length ≤ 9000000000000000000) : Ev (fun k => laws_eqInt64S.f k l l) true := by
  simp only [laws_eqInt64S.f, if_true]
  refine loop_list l (fun p s => Ev (fun k => laws_eqInt64S.l0 k l l (p.length : Int)) true) ?_ ?_
  · refine Ev.step (fun k => by rw [laws_eqInt64S.l0]) ?_
    simp only [if_neg (nlt_self l)]
    exact Ev.now _
  · intro p x s he ih
    refine Ev.step (fun k => by rw [laws_eqInt64S.l0]) ?_
    simp only [if_pos (mid_lt he), if_pos (nat_nn p.length), if_true, mid_next he (by omega)]
    exact ih
/-- The numbers from m on. -/
def numsI (m : Int) : Nat → List Int
  | 0 => []
  | n + 1 => m :: numsI (m + 1) n
theorem numsI_length (n : Nat) : ∀ m, (numsI m n).length = n := by
  induction n with
  | zero => intro m; rfl
  | succ n ih => intro m; simp [numsI, ih]
theorem markInt64S (l : List Int) (m : Int) (hm : 0 ≤ m) (hb : m ≤ 1000000000000) (h : l.length ≤ 9000000000000) : Ev (fun k => laws_markInt64S.f k l m) (m + (l.length : Int), numsI m l.length) := by
  have H : ∀ (t a : List Int) (m : Int), 0 ≤ m → m + (t.length : Int) ≤ 1000000000000000 → a.length + t.length ≤ 9000000000000 → Ev (fun k => laws_markInt64S.l0 k (a ++ t) m (a.length : Int)) (m + (t.length : Int), a ++ numsI m t.length) := by
    intro t
    induction t with
    | nil =>
      intro a m hm hb ha
      refine Ev.step (fun k => by rw [laws_markInt64S.l0]) ?_
      simp only [List.append_nil, if_neg (nlt_self a), List.length_nil, numsI]
      exact ev_eq (Ev.now _) (by simp)
    | cons x t ih =>
      intro a m hm hb ha
      simp only [List.length_cons] at hb ha
      refine Ev.step (fun k => by rw [laws_markInt64S.l0]) ?_
      have e : ((a.length : Int) < ((a ++ x :: t).length : Int)) := by simp; omega
      simp only [if_pos e, if_pos (nat_nn a.length), set_mid, w64 (x := m + 1) (by omega) (by omega), w64 (x := (a.length : Int) + 1) (by omega) (by omega)]
      have := ih (a ++ [m]) (m + 1) (by omega) (by omega) (by simp; omega)
      simp only [List.append_assoc, List.singleton_append, List.length_append, List.length_singleton] at this
      rw [show ((a.length + 1 : Nat) : Int) = (a.length : Int) + 1 by omega] at this
      refine ev_eq this ?_
      simp only [List.length_cons, numsI, Prod.mk.injEq, and_true]
      omega
  have := H l [] m hm (by omega) (by simpa using h)
  simpa [laws_markInt64S.f] using this
theorem heldInt64S (n : Nat) (m : Int) (hm : 0 ≤ m) (hb : m + (n : Int) ≤ 1000000000000000) : Ev (fun k => laws_heldInt64S.f k (numsI m n) m) (m + (n : Int)) := by
  have H := loop_list (numsI m n) (fun p s => ∀ q : Int, 0 ≤ q → q + (s.length : Int) ≤ 1000000000000000 → s = numsI q s.length → Ev (fun k => laws_heldInt64S.l0 k (numsI m n) q (p.length : Int)) (q + (s.length : Int))) ?_ ?_
  · have := H m hm (by rw [numsI_length]; omega) (by rw [numsI_length])
    rw [numsI_length] at this
    exact this
  · intro q h0 h1 hs
    refine Ev.step (fun k => by rw [laws_heldInt64S.l0]) ?_
    simp only [if_neg (nlt_self (numsI m n))]
    exact ev_eq (Ev.now _) (by simp)
  · intro p x s he ih q h0 h1 hs
    simp only [List.length_cons] at h1 hs
    rw [numsI] at hs
    obtain ⟨rfl, hs⟩ := List.cons.inj hs
    refine Ev.step (fun k => by rw [laws_heldInt64S.l0]) ?_
    have hl : (numsI m n).length ≤ 1000000000000000 := by rw [numsI_length]; omega
    have hx : rd (numsI m n) (p.length : Int) = x := mid_get he 0
    simp only [if_pos (mid_lt he), if_pos (nat_nn p.length), hx, if_true, mid_next he (by omega), w64 (x := x + 1) (by omega) (by omega)]
    refine ev_eq (ih (x + 1) (by omega) (by omega) hs) ?_
    simp only [List.length_cons]
    omega
def inR (a lo hi : Int) : Bool := decide (lo ≤ a) && decide (a ≤ hi)
theorem inR_iff {a lo hi : Int} : inR a lo hi = true ↔ lo ≤ a ∧ a ≤ hi := by simp [inR]
theorem l01In (a lo hi : Int) : spec_l01In.f a lo hi = some (inR a lo hi) := by
  unfold spec_l01In.f inR
  split
  · rename_i h; rw [decide_eq_true (show lo ≤ a from h), Bool.true_and]
  · rename_i h; rw [decide_eq_false (show ¬ lo ≤ a from h), Bool.false_and]
theorem inRange (a lo hi : Int) : impl_inRange.f a lo hi = some (inR a lo hi) := by
  unfold impl_inRange.f inR
  split
  · rename_i h; rw [decide_eq_true (show lo ≤ a from h), Bool.true_and]
  · rename_i h; rw [decide_eq_false (show ¬ lo ≤ a from h), Bool.false_and]
def okOrder (x : S101) : Bool := inR x.f0 1 1000000000 && (inR x.f1 1 1000000 && (inR x.f2 0 100000 && inR x.f3 0 5))
def bookFrom (q : Option Int) : List S101 → Bool
  | [] => true
  | x :: s => okOrder x && ((match q with | none => true | some y => decide (y < x.f0)) && bookFrom (some x.f0) s)
def bookB (l : List S101) : Bool := bookFrom none l && decide (l.length ≤ 50)
theorem last_of {l p s : List S101} {x y : S101} (he : l = (p ++ [y]) ++ x :: s) (z : S101) : l.getD (((p ++ [y]).length : Int) - 1).toNat z = y := by
  rw [he, show (((p ++ [y]).length : Int) - 1).toNat = p.length by simp]
  simp
theorem spec_IsOrderBook (l : List S101) (h : l.length ≤ 1048576) : Ev (fun k => spec_IsOrderBook.f k l) (bookB l) := by
  refine loop_list l (fun p s => Ev (fun k => spec_IsOrderBook.l0 k l (p.length : Int)) (bookFrom (p.getLast?.map fun x => x.f0) s && decide (l.length ≤ 50))) ?_ ?_
  · refine Ev.step (fun k => by rw [spec_IsOrderBook.l0]) ?_
    simp only [if_neg (nlt_self l), bookFrom, Bool.true_and]
    exact ev_eq (Ev.now _) (decide_eq_decide.2 (by omega))
  · intro p x s he ih
    have J1 : Ev (fun k => spec_IsOrderBook.j1 k l (p.length : Int) true x.f0 x.f1 x.f2 x.f3) false := by
      refine Ev.step (fun k => by rw [spec_IsOrderBook.j1]) ?_
      simp only [if_true]
      exact Ev.now _
    simp only [List.getLast?_append, List.getLast?_singleton, Option.some_or, Option.map_some] at ih
    have J2 : Ev (fun k => spec_IsOrderBook.j1 k l (p.length : Int) false x.f0 x.f1 x.f2 x.f3) (((match p.getLast?.map (fun x => x.f0) with | none => true | some y => decide (y < x.f0)) && bookFrom (some x.f0) s) && decide (l.length ≤ 50)) := by
      refine Ev.step (fun k => by rw [spec_IsOrderBook.j1]) ?_
      simp only [Bool.false_eq_true, if_false, mid_next he (by omega)]
      rcases nil_or_snoc p with rfl | ⟨p', y, rfl⟩
      · simp only [List.length_nil, show ¬ (((0 : Nat) : Int) > 0) by omega, if_false, List.getLast?_nil, Option.map_none, Bool.true_and]
        exact ih
      · have hl := mid_lt he
        have e1 : wrap64 (((p' ++ [y]).length : Int) - 1) = ((p' ++ [y]).length : Int) - 1 := w64 (by omega) (by omega)
        have e2 : 0 < ((p' ++ [y]).length : Int) := by simp
        simp only [if_pos (show ((p' ++ [y]).length : Int) > 0 from e2), e1, if_pos (show 0 ≤ ((p' ++ [y]).length : Int) - 1 by omega), if_pos (show ((p' ++ [y]).length : Int) - 1 < (l.length : Int) by omega), rd_T101, last_of he, List.getLast?_append, List.getLast?_singleton, Option.some_or, Option.map_some]
        by_cases hy : x.f0 ≤ y.f0
        · simp only [if_pos hy]
          exact ev_eq (Ev.now _) (by rw [decide_eq_false (show ¬ y.f0 < x.f0 by omega)]; rfl)
        · simp only [if_neg hy, decide_eq_true (show y.f0 < x.f0 by omega), Bool.true_and]
          exact ih
    refine Ev.step (fun k => by rw [spec_IsOrderBook.l0]) ?_
    simp only [if_pos (mid_lt he), if_pos (nat_nn p.length), rd_T101, mid_get he, l01In, Option.bind_some, bookFrom]
    cases h0 : inR x.f0 1 1000000000 <;> cases h1 : inR x.f1 1 1000000 <;> cases h2 : inR x.f2 0 100000 <;> cases h3 : inR x.f3 0 5 <;> simp only [okOrder, h0, h1, h2, h3, Bool.and_false, Bool.false_and, Bool.and_true, Bool.true_and, Bool.false_eq_true, if_true, if_false, Bool.not_true, Bool.not_false] <;> first | exact J1 | exact J2
theorem impl_IsOrderBook (l : List S101) (h : l.length ≤ 1048576) : Ev (fun k => impl_IsOrderBook.f k l) (bookB l) := by
  simp only [impl_IsOrderBook.f]
  by_cases hlen : (l.length : Int) > 50
  · simp only [if_pos hlen]
    exact ev_eq (Ev.now _) (by simp [bookB, show ¬ l.length ≤ 50 by omega])
  · simp only [if_neg hlen]
    refine ev_eq (r := bookFrom none l) ?_ (by simp [bookB, show l.length ≤ 50 by omega])
    refine loop_list l (fun p s => Ev (fun k => impl_IsOrderBook.l0 k l l (l.length : Int) (p.length : Int)) (bookFrom (p.getLast?.map fun x => x.f0) s)) ?_ ?_
    · refine Ev.step (fun k => by rw [impl_IsOrderBook.l0]) ?_
      simp only [if_neg (nlt_self l), bookFrom]
      exact Ev.now _
    · intro p x s he ih
      have J1 : Ev (fun k => impl_IsOrderBook.j1 k l (p.length : Int) l (l.length : Int) (p.length : Int) true x.f0 x.f1 x.f2 x.f3) false := by
        refine Ev.step (fun k => by rw [impl_IsOrderBook.j1]) ?_
        simp only [if_true]
        exact Ev.now _
      simp only [List.getLast?_append, List.getLast?_singleton, Option.some_or, Option.map_some] at ih
      have J2 : Ev (fun k => impl_IsOrderBook.j1 k l (p.length : Int) l (l.length : Int) (p.length : Int) false x.f0 x.f1 x.f2 x.f3) ((match p.getLast?.map (fun x => x.f0) with | none => true | some y => decide (y < x.f0)) && bookFrom (some x.f0) s) := by
        refine Ev.step (fun k => by rw [impl_IsOrderBook.j1]) ?_
        simp only [Bool.false_eq_true, if_false, mid_next he (by omega)]
        rcases nil_or_snoc p with rfl | ⟨p', y, rfl⟩
        · simp only [List.length_nil, show ¬ (((0 : Nat) : Int) > 0) by omega, if_false, List.getLast?_nil, Option.map_none, Bool.true_and]
          exact ih
        · have hl := mid_lt he
          have e1 : wrap64 (((p' ++ [y]).length : Int) - 1) = ((p' ++ [y]).length : Int) - 1 := w64 (by omega) (by omega)
          have e2 : 0 < ((p' ++ [y]).length : Int) := by simp
          simp only [if_pos (show ((p' ++ [y]).length : Int) > 0 from e2), e1, if_pos (show 0 ≤ ((p' ++ [y]).length : Int) - 1 by omega), if_pos (show ((p' ++ [y]).length : Int) - 1 < (l.length : Int) by omega), rd_T101, last_of he, List.getLast?_append, List.getLast?_singleton, Option.some_or, Option.map_some]
          by_cases hy : y.f0 ≥ x.f0
          · simp only [if_pos hy]
            exact ev_eq (Ev.now _) (by rw [decide_eq_false (show ¬ y.f0 < x.f0 by omega)]; rfl)
          · simp only [if_neg hy, decide_eq_true (show y.f0 < x.f0 by omega), Bool.true_and]
            exact ih
      refine Ev.step (fun k => by rw [impl_IsOrderBook.l0]) ?_
      simp only [if_pos (mid_lt he), if_pos (nat_nn p.length), rd_T101, mid_get he, impl_isMinutes.f, inRange, Option.bind_some, bookFrom]
      cases h0 : inR x.f0 1 1000000000 <;> cases h1 : inR x.f1 1 1000000 <;> cases h2 : inR x.f2 0 100000 <;> cases h3 : inR x.f3 0 5 <;> simp only [okOrder, h0, h1, h2, h3, Bool.and_false, Bool.false_and, Bool.and_true, Bool.true_and, Bool.false_eq_true, if_true, if_false, Bool.not_true, Bool.not_false] <;> first | exact J1 | exact J2
def ordF (s : Int) : List S101 → List Int
  | [] => []
  | x :: t => if x.f3 = s then x.f0 :: ordF s t else ordF s t
theorem ordF_length (s : Int) (l : List S101) : (ordF s l).length ≤ l.length := by
  induction l with
  | nil => simp [ordF]
  | cons x l ih => simp only [ordF]; split <;> simp <;> omega
theorem spec_orders (l : List S101) (s : Int) (h : l.length ≤ 1048576) : Ev (fun k => spec_OrdersIn.l0 k l s [] 0) (ordF s l, 0) := by
  refine loop_list l (fun p t => ∀ acc : List Int, acc.length ≤ p.length → Ev (fun k => spec_OrdersIn.l0 k l s acc (p.length : Int)) (acc ++ ordF s t, 0)) ?_ ?_ [] (by simp)
  · intro acc _
    refine Ev.step (fun k => by rw [spec_OrdersIn.l0]) ?_
    simp only [if_neg (nlt_self l), ordF, List.append_nil]
    exact Ev.now _
  · intro p x t he ih acc ha
    have hp := mid_lt he
    refine Ev.step (fun k => by rw [spec_OrdersIn.l0]) ?_
    simp only [if_pos hp, if_pos (nat_nn p.length), rd_T101, mid_get he, mid_next he (by omega), ordF]
    by_cases hx : x.f3 = s
    · simp only [if_pos hx, if_pos (show acc.length < 17592186044416 by omega)]
      have := ih (acc ++ [x.f0]) (by simp; omega)
      simpa using this
    · simp only [if_neg hx]
      exact ih acc (by simp; omega)
theorem impl_orders (l : List S101) (s : Int) (h : l.length ≤ 1048576) : Ev (fun k => impl_numbersOf_at_impl_OrdersIn_1.f k l s) (ordF s l) := by
  simp only [impl_numbersOf_at_impl_OrdersIn_1.f]
  refine loop_list l (fun p t => ∀ acc : List Int, acc.length ≤ p.length → Ev (fun k => impl_numbersOf_at_impl_OrdersIn_1.l0 k s acc l (l.length : Int) (p.length : Int)) (acc ++ ordF s t)) ?_ ?_ [] (by simp)
  · intro acc _
    refine Ev.step (fun k => by rw [impl_numbersOf_at_impl_OrdersIn_1.l0]) ?_
    simp only [if_neg (nlt_self l), ordF, List.append_nil]
    exact Ev.now _
  · intro p x t he ih acc ha
    have hp := mid_lt he
    refine Ev.step (fun k => by rw [impl_numbersOf_at_impl_OrdersIn_1.l0]) ?_
    simp only [if_pos hp, if_pos (nat_nn p.length), rd_T101, mid_get he, mid_next he (by omega), ordF, impl_OrdersIn_1.f, Option.bind_some]
    by_cases hx : x.f3 = s
    · simp only [if_pos hx, beq_iff_eq.2 hx, if_true, if_pos (show acc.length < 17592186044416 by omega)]
      have := ih (acc ++ [x.f0]) (by simp; omega)
      simpa using this
    · simp only [if_neg hx, beq_eq_false_iff_ne.2 hx, Bool.false_eq_true, if_false]
      exact ih acc (by simp; omega)
theorem both_OrdersIn (l : List S101) (s : Int) (h : l.length ≤ 1048576) : ∃ r : List Int × Int, Ev (fun k => spec_OrdersIn.f k l s) r ∧ Ev (fun k => impl_OrdersIn.f k l s) r ∧ r.1.length ≤ 1048576 := by
  simp only [spec_OrdersIn.f, impl_OrdersIn.f]
  have s1 := spec_IsOrderBook l h
  have i1 := impl_IsOrderBook l h
  cases hc : bookB l <;> rw [hc] at s1 i1
  · exact ⟨([], 1), Ev.bind s1 (by simp only [Bool.false_eq_true, if_false]; exact Ev.now _), Ev.bind i1 (by simp only [Bool.false_eq_true, if_false]; exact Ev.now _), by simp⟩
  · cases hs : inR s 0 5
    · exact ⟨([], 2), Ev.bind s1 (by simp only [if_true, l01In, hs, Option.bind_some, Bool.false_eq_true, if_false]; exact Ev.now _), Ev.bind i1 (by simp only [if_true, inRange, hs, Option.bind_some, Bool.false_eq_true, if_false]; exact Ev.now _), by simp⟩
    · refine ⟨(ordF s l, 0), Ev.bind s1 ?_, Ev.bind i1 ?_, by have := ordF_length s l; simp only []; omega⟩
      · simp only [if_true, l01In, hs, Option.bind_some]
        exact spec_orders l s h
      · simp only [if_true, inRange, hs, Option.bind_some]
        exact Ev.bind (impl_orders l s h) (Ev.now _)
theorem FnExactOrdersIn : laws_FnExactOrdersIn.Pure := by
  intro l s hl hw _
  refine Ev.rounds (g := fun k => laws_FnExactOrdersIn.f k l s) ?_
  simp only [laws_FnExactOrdersIn.f, szOrder l 1048576 (by omega) (by omega) (by omega), Option.bind_some]
  by_cases hs : (1048576 : Int) - l.length < 0
  · simp only [if_pos hs]
    exact Ev.now _
  · simp only [if_neg hs]
    have h0 : l.length ≤ 1048576 := by omega
    have hm : (l.map cvOrder).length ≤ 1048576 := by simpa using h0
    obtain ⟨r, h1, h2, hr⟩ := both_OrdersIn (l.map cvOrder) s hm
    have e0 : ¬ (1 + (r.1.length : Int) < 0) := by omega
    refine Ev.bind (toOrderS l h0) ?_
    refine Ev.bind h1 ?_
    refine Ev.bind (toOrderS l h0) ?_
    refine Ev.bind h2 ?_
    refine Ev.bind (eqInt64S _ (by omega)) ?_
    simp only [if_true, bne_self_eq_false]
    refine Ev.step (fun k => by rw [laws_FnExactOrdersIn.j0]) ?_
    simp only [Bool.false_eq_true, if_false]
    refine Ev.bind (toOrderS l h0) ?_
    refine Ev.bind (eqOrderS _ (by omega)) ?_
    simp only [if_true]
    refine Ev.bind (markOrderS _ 1 (by omega) (by omega) (by omega)) ?_
    simp only [if_neg (show ¬ (1 + 4 * ((l.map cvOrder).length : Int) < 0) by omega)]
    refine Ev.bind (eqInt64S _ (by omega)) ?_
    simp only [if_true, bne_self_eq_false]
    refine Ev.step (fun k => by rw [laws_FnExactOrdersIn.j1]) ?_
    simp only [Bool.false_eq_true, if_false]
    refine Ev.bind (markInt64S _ 1 (by omega) (by omega) (by omega)) ?_
    refine Ev.bind (heldInt64S _ 1 (by omega) (by omega)) ?_
    simp only [if_neg e0, if_true]
    refine Ev.bind (toOrderS l h0) ?_
    refine Ev.bind h2 ?_
    refine Ev.bind (eqInt64S _ (by omega)) ?_
    simp only [if_true, bne_self_eq_false]
    refine Ev.step (fun k => by rw [laws_FnExactOrdersIn.j2]) ?_
    simp only [Bool.false_eq_true, if_false]
    refine Ev.bind (heldInt64S _ 1 (by omega) (by omega)) ?_
    simp only [if_neg e0, if_true]
    exact Ev.now _

end Go.Proofs.Ythfgdcnngklfoaa.Pure
