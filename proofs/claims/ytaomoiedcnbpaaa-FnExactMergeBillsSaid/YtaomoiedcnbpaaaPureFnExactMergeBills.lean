/- The pure statement of law FnExactMergeBills: what the printed functions compute answers true at every input. No condition. -/
import Derived.Test.YtaomoiedcnbpaaaPFnExactMergeBillsx5
set_option linter.unusedVariables false
set_option linter.unusedSimpArgs false
namespace Go.Proofs.Ytaomoiedcnbpaaa.Pure
open Go.RowKit Go.Proofs.Ytaomoiedcnbpaaa.PFnExactMergeBills Go.Proofs.YtaomoiedcnbpaaaW.PrintWords Go.Proofs.YtaomoiedcnbpaaaW.PrintLast Go.Proofs.YtaomoiedcnbpaaaW.PrintMore


/-! #### Numbers and rounds -/
theorem w64 {x : Int} (h1 : -9223372036854775808 ≤ x) (h2 : x ≤ 9223372036854775807) : wrap64 x = x := by
  unfold wrap64
  omega
theorem wf64 {x : Int} (h : (Lit.int .i64 x).wf = true) : -9223372036854775808 ≤ x ∧ x ≤ 9223372036854775807 := by
  simp only [Lit.wf, IntKind.min, IntKind.max, IntKind.signed, IntKind.bits, Bool.and_eq_true, decide_eq_true_eq, if_true] at h
  omega
theorem ev_of {α : Type} {g : Nat → Option α} {r : α} (h : ∀ k, g k = some r) : Ev g r := ⟨0, fun k _ => h k⟩
theorem ev_eq {α : Type} {g : Nat → Option α} {r r' : α} (h : Ev g r) (e : r = r') : Ev g r' := e ▸ h
/-- A loop over a list: what lies behind, what lies ahead. -/
theorem loop_list {α : Type} (l : List α) (Q : List α → List α → Prop) (h0 : Q l []) (hs : ∀ p x s, l = p ++ x :: s → Q (p ++ [x]) s → Q p (x :: s)) : Q [] l := by
  have h : ∀ s p, l = p ++ s → Q p s := by
    intro s
    induction s with
    | nil => intro p hp; rw [List.append_nil] at hp; rw [← hp]; exact h0
    | cons x s ih => intro p hp; exact hs p x s hp (ih (p ++ [x]) (by simp [hp]))
  exact h l [] rfl
theorem mid_lt {α : Type} {l p s : List α} {x : α} (h : l = p ++ x :: s) : (p.length : Int) < (l.length : Int) := by
  rw [h, List.length_append, List.length_cons]; omega
theorem mid_next {α : Type} {l p s : List α} {x : α} (h : l = p ++ x :: s) (hl : l.length ≤ 9223372036854775807) : wrap64 ((p.length : Int) + 1) = ((p ++ [x]).length : Int) := by
  have := mid_lt h
  rw [w64 (by omega) (by omega), List.length_append]; simp
theorem mid_get {α : Type} {l p s : List α} {x : α} (h : l = p ++ x :: s) (z : α) : l.getD (p.length : Int).toNat z = x := by
  rw [h]; simp
theorem get_mid {α : Type} (p s : List α) (x z : α) : (p ++ x :: s).getD (p.length : Int).toNat z = x := by simp
theorem nat_nn (n : Nat) : (0 : Int) ≤ (n : Int) := by omega
theorem nlt_self {α : Type} (l : List α) : ¬ ((l.length : Int) < (l.length : Int)) := by omega
theorem set_mid {α : Type} (p s : List α) (x y : α) : (p ++ x :: s).set ((p.length : Int).toNat) y = p ++ y :: s := by
  rw [Int.toNat_natCast, List.set_append_right _ _ (Nat.le_refl _)]; simp
theorem nil_or_snoc {α : Type} (p : List α) : p = [] ∨ ∃ q y, p = q ++ [y] := by
  rcases List.eq_nil_or_concat p with h | ⟨q, y, h⟩
  · exact .inl h
  · exact .inr ⟨q, y, by rw [h, List.concat_eq_append]⟩
theorem loop_all {α : Type} (l : List α) (Q : List α → List α → Prop) (h0 : Q l []) (hs : ∀ p x s, l = p ++ x :: s → Q (p ++ [x]) s → Q p (x :: s)) : ∀ s p, l = p ++ s → Q p s := by
  intro s
  induction s with
  | nil => intro p hp; rw [List.append_nil] at hp; rw [← hp]; exact h0
  | cons x s ih => intro p hp; exact hs p x s hp (ih (p ++ [x]) (by simp [hp]))
theorem szLine (l : List S35) (a : Int) (ha : 0 ≤ a) (hb : a ≤ 1048576) (h : l.length ≤ 9000000000000000000) : laws_szLineS.f l a = some (if a - l.length < 0 then (-1 : Int) else a - l.length) := by
  unfold laws_szLineS.f
  rw [w64 (by omega) (by omega)]
  split <;> rfl
def cvLine (x : S35) : S33 := ⟨x.f0, x.f1⟩
theorem toLineS (l : List S35) (h : l.length ≤ 1048576) : Ev (fun k => laws_toLineS.f k l) (l.map cvLine) := by
  have H := loop_list l (fun p s => ∀ (a t : List S33), a.length = p.length → t.length = s.length → Ev (fun k => laws_toLineS.l0 k l (a ++ t) (p.length : Int)) (a ++ s.map cvLine)) ?_ ?_
  · have := H [] (List.replicate l.length z33) rfl (by simp)
    simp only [laws_toLineS.f, Int.toNat_natCast, if_pos (nat_nn l.length)]
    rw [show (fun k => if l.length ≤ _ then _ else _) = (fun k => laws_toLineS.l0 k l (List.replicate l.length z33) 0) from funext fun k => if_pos (by omega)]
    simpa using this
  · intro a t ha ht
    refine Ev.step (fun k => by rw [laws_toLineS.l0]) ?_
    simp only [if_neg (nlt_self l)]
    have : t = [] := List.eq_nil_of_length_eq_zero (by simpa using ht)
    subst this
    exact Ev.now _
  · intro p x s he ih a t ha ht
    obtain ⟨y, t, rfl⟩ : ∃ y t', t = y :: t' := by cases t with | nil => simp at ht | cons y t => exact ⟨y, t, rfl⟩
    refine Ev.step (fun k => by rw [laws_toLineS.l0]) ?_
    have e : ((p.length : Int) < ((a ++ y :: t).length : Int)) := by simp; omega
    have e2 := set_mid a t y (cvLine x)
    rw [ha] at e2
    simp only [if_pos (mid_lt he), if_pos (nat_nn p.length), laws_toLine.f, Option.bind_some, if_pos e, mid_next he (by omega), rd_T35, mid_get he]
    have := ih (a ++ [cvLine x]) t (by simp [ha]) (by simpa using ht)
    simp only [cvLine, List.append_assoc, List.singleton_append, List.map_cons] at this e2 ⊢
    rw [e2]
    exact this
theorem eqLineS (l : List S33) (h : l.length ≤ 9000000000000000000) : Ev (fun k => laws_eqLineS.f k l l) true := by
  simp only [laws_eqLineS.f, if_true]
  refine loop_list l (fun p s => Ev (fun k => laws_eqLineS.l0 k l l (p.length : Int)) true) ?_ ?_
  · refine Ev.step (fun k => by rw [laws_eqLineS.l0]) ?_
    simp only [if_neg (nlt_self l)]
    exact Ev.now _
  · intro p x s he ih
    refine Ev.step (fun k => by rw [laws_eqLineS.l0]) ?_
    simp only [if_pos (mid_lt he), if_pos (nat_nn p.length), laws_eqLine.f, if_true, Option.bind_some, mid_next he (by omega)]
    exact ih
/-- Structs that hold the numbers from m on. -/
def numsLine (m : Int) : Nat → List S33
  | 0 => []
  | n + 1 => ⟨m, m + 1⟩ :: numsLine (m + 2) n
theorem numsLine_length (n : Nat) : ∀ m, (numsLine m n).length = n := by
  induction n with
  | zero => intro m; rfl
  | succ n ih => intro m; simp [numsLine, ih]
theorem markLineS (l : List S33) (m : Int) (hm : 0 ≤ m) (hb : m ≤ 1000000000000) (h : l.length ≤ 9000000000000) : Ev (fun k => laws_markLineS.f k l m) (m + 2 * (l.length : Int), numsLine m l.length) := by
  have H : ∀ (t a : List S33) (m : Int), 0 ≤ m → m + 2 * (t.length : Int) ≤ 1000000000000000 → a.length + t.length ≤ 9000000000000 → Ev (fun k => laws_markLineS.l0 k (a ++ t) m (a.length : Int)) (m + 2 * (t.length : Int), a ++ numsLine m t.length) := by
    intro t
    induction t with
    | nil =>
      intro a m hm hb ha
      refine Ev.step (fun k => by rw [laws_markLineS.l0]) ?_
      simp only [List.append_nil, if_neg (nlt_self a), List.length_nil, numsLine]
      exact ev_eq (Ev.now _) (by simp)
    | cons x t ih =>
      intro a m hm hb ha
      simp only [List.length_cons] at hb ha
      refine Ev.step (fun k => by rw [laws_markLineS.l0]) ?_
      have e : ((a.length : Int) < ((a ++ x :: t).length : Int)) := by simp; omega
      simp only [if_pos e, if_pos (nat_nn a.length), set_mid, Option.bind_some, rd_T33, get_mid, w64 (x := m + 1) (by omega) (by omega), w64 (x := m + 2) (by omega) (by omega), (show m + 1 + 1 = m + 2 from by omega), w64 (x := (a.length : Int) + 1) (by omega) (by omega)]
      have := ih (a ++ [⟨m, m + 1⟩]) (m + 2) (by omega) (by omega) (by simp; omega)
      simp only [List.append_assoc, List.singleton_append, List.length_append, List.length_singleton] at this
      rw [show ((a.length + 1 : Nat) : Int) = (a.length : Int) + 1 by omega] at this
      refine ev_eq this ?_
      simp only [List.length_cons, numsLine, Prod.mk.injEq, and_true]
      omega
  have := H l [] m hm (by omega) (by simpa using h)
  simpa [laws_markLineS.f] using this
theorem heldLineS (n : Nat) (m : Int) (hm : 0 ≤ m) (hb : m + 2 * (n : Int) ≤ 1000000000000000) : Ev (fun k => laws_heldLineS.f k (numsLine m n) m) (m + 2 * (n : Int)) := by
  have H := loop_list (numsLine m n) (fun p s => ∀ q : Int, 0 ≤ q → q + 2 * (s.length : Int) ≤ 1000000000000000 → s = numsLine q s.length → Ev (fun k => laws_heldLineS.l0 k (numsLine m n) q (p.length : Int)) (q + 2 * (s.length : Int))) ?_ ?_
  · have := H m hm (by rw [numsLine_length]; omega) (by rw [numsLine_length])
    rw [numsLine_length] at this
    exact this
  · intro q h0 h1 hs
    refine Ev.step (fun k => by rw [laws_heldLineS.l0]) ?_
    simp only [if_neg (nlt_self (numsLine m n))]
    exact ev_eq (Ev.now _) (by simp)
  · intro p x s he ih m' h0 h1 hs
    simp only [List.length_cons] at h1 hs
    rw [numsLine] at hs
    obtain ⟨rfl, hs2⟩ := List.cons.inj hs
    refine Ev.step (fun k => by rw [laws_heldLineS.l0]) ?_
    have hl : (numsLine m n).length ≤ 1000000000000000 := by rw [numsLine_length]; omega
    simp only [if_pos (mid_lt he), if_pos (nat_nn p.length), rd_T33, mid_get he, if_true, mid_next he (by omega), w64 (x := m' + 1) (by omega) (by omega), w64 (x := m' + 2) (by omega) (by omega), (show m' + 1 + 1 = m' + 2 from by omega)]
    refine ev_eq (ih (m' + 2) (by omega) (by omega) hs2) ?_
    simp only [List.length_cons]
    omega
def inR (a lo hi : Int) : Bool := decide (lo ≤ a) && decide (a ≤ hi)
theorem inR_iff {a lo hi : Int} : inR a lo hi = true ↔ lo ≤ a ∧ a ≤ hi := by simp [inR]
theorem l01In (a lo hi : Int) : spec_l01In.f a lo hi = some (inR a lo hi) := by
  unfold spec_l01In.f inR
  split
  · rename_i h; rw [decide_eq_true (show lo ≤ a from h), Bool.true_and]
  · rename_i h; rw [decide_eq_false (show ¬ lo ≤ a from h), Bool.false_and]
theorem inRange (a lo hi : Int) : impl_inRange.f a lo hi = some (inR a lo hi) := by
  unfold impl_inRange.f inR
  split
  · rename_i h; rw [decide_eq_true (show lo ≤ a from h), Bool.true_and]
  · rename_i h; rw [decide_eq_false (show ¬ lo ≤ a from h), Bool.false_and]
def okLine (x : S33) : Bool := inR x.f0 0 1000000 && inR x.f1 0 1000000
theorem spec_IsBill (l : List S33) (h : l.length ≤ 1048576) : Ev (fun k => spec_IsBill.f k l) (l.all okLine && decide (l.length ≤ 40)) := by
  refine loop_list l (fun p s => Ev (fun k => spec_IsBill.l0 k l (p.length : Int)) (s.all okLine && decide (l.length ≤ 40))) ?_ ?_
  · refine Ev.step (fun k => by rw [spec_IsBill.l0]) ?_
    simp only [if_neg (nlt_self l), List.all_nil, Bool.true_and]
    exact ev_eq (Ev.now _) (decide_eq_decide.2 (by omega))
  · intro p x s he ih
    refine Ev.step (fun k => by rw [spec_IsBill.l0]) ?_
    simp only [if_pos (mid_lt he), if_pos (nat_nn p.length), mid_next he (by omega), rd_T33, mid_get he, l01In, Option.bind_some, List.all_cons]
    cases h0 : inR x.f0 0 1000000 <;> cases h1 : inR x.f1 0 1000000 <;> simp [okLine, h0, h1] <;> first | exact Ev.now _ | simpa [mid_next he (by omega)] using ih
theorem impl_IsBill_1_ok (x : S33) : impl_IsBill_1.f x.f0 x.f1 = some (!(okLine x)) := by
  simp only [impl_IsBill_1.f, impl_isRun.f, impl_isPrice.f, inRange, Option.bind_some, okLine]
  cases inR x.f0 0 1000000 <;> cases inR x.f1 0 1000000 <;> rfl
theorem contains_impl_IsBill_1 (l : List S33) (h : l.length ≤ 1048576) : Ev (fun k => slices_ContainsFunc_at_impl_IsBill_1.f k l) (!(l.all okLine)) := by
  have H := loop_list l (fun p s => ∃ r, Ev (fun k => slices_IndexFunc_at_impl_IsBill_1.l0 k l (l.length : Int) (p.length : Int)) r ∧ decide (r ≥ 0) = !(s.all okLine)) ?_ ?_
  · obtain ⟨r, hr, e⟩ := H
    rw [← e]
    exact Ev.bind hr (Ev.now _)
  · refine ⟨-1, Ev.step (fun k => by rw [slices_IndexFunc_at_impl_IsBill_1.l0]) ?_, by simp⟩
    simp only [if_neg (nlt_self l)]
    exact Ev.now _
  · rintro p x s he ⟨r, ih, e⟩
    by_cases hx : okLine x = true
    · refine ⟨r, Ev.step (fun k => by rw [slices_IndexFunc_at_impl_IsBill_1.l0]) ?_, by rw [e]; simp [hx]⟩
      simp only [if_pos (mid_lt he), if_pos (nat_nn p.length), rd_T33, mid_get he, impl_IsBill_1_ok, hx, Option.bind_some, mid_next he (by omega)]
      exact ih
    · refine ⟨(p.length : Int), Ev.step (fun k => by rw [slices_IndexFunc_at_impl_IsBill_1.l0]) ?_, by simp [hx]⟩
      simp only [if_pos (mid_lt he), if_pos (nat_nn p.length), rd_T33, mid_get he, impl_IsBill_1_ok, Bool.eq_false_iff.2 hx, Option.bind_some]
      exact Ev.now _
theorem impl_IsBill (l : List S33) (h : l.length ≤ 1048576) : Ev (fun k => impl_IsBill.f k l) (l.all okLine && decide (l.length ≤ 40)) := by
  simp only [impl_IsBill.f]
  by_cases hl : (l.length : Int) ≤ 40
  · simp only [if_pos hl]
    exact ev_eq (Ev.bind (contains_impl_IsBill_1 l h) (Ev.now _)) (by simp [show l.length ≤ 40 by omega])
  · simp only [if_neg hl]
    exact ev_eq (Ev.now _) (by simp [show ¬ l.length ≤ 40 by omega])

def billB (l : List S33) : Bool := l.all okLine && decide (l.length ≤ 40)
/-- A line added to a bill: to the first line of the same price, or behind all. -/
def addF (x : S33) : List S33 → List S33
  | [] => [⟨x.f0, x.f1⟩]
  | y :: t => if y.f1 = x.f1 then ⟨wrap64 (y.f0 + x.f0), y.f1⟩ :: t else y :: addF x t
def mergeF (s out : List S33) : List S33 := s.foldl (fun o x => addF x o) out
theorem addF_new {x : S33} : ∀ {l : List S33}, (∀ y ∈ l, y.f1 ≠ x.f1) → addF x l = l ++ [⟨x.f0, x.f1⟩] := by
  intro l
  induction l with
  | nil => intro _; rfl
  | cons y l ih =>
    intro h
    simp only [addF, if_neg (h y (by simp)), List.cons_append, ih (fun z hz => h z (by simp [hz]))]
theorem addF_at {x y : S33} {v : List S33} : ∀ {u : List S33}, (∀ z ∈ u, z.f1 ≠ x.f1) → y.f1 = x.f1 → addF x (u ++ y :: v) = u ++ ⟨wrap64 (y.f0 + x.f0), y.f1⟩ :: v := by
  intro u
  induction u with
  | nil => intro _ hy; simp only [List.nil_append, addF, if_pos hy]
  | cons z u ih =>
    intro h hy
    simp only [List.cons_append, addF, if_neg (h z (by simp)), ih (fun q hq => h q (by simp [hq])) hy]
theorem addF_length (x : S33) : ∀ l : List S33, (addF x l).length ≤ l.length + 1 := by
  intro l
  induction l with
  | nil => simp [addF]
  | cons y l ih => simp only [addF]; split <;> simp; omega
theorem mergeF_length : ∀ s out : List S33, (mergeF s out).length ≤ out.length + s.length := by
  intro s
  induction s with
  | nil => intro out; simp [mergeF]
  | cons x s ih =>
    intro out
    have h1 := ih (addF x out)
    have h2 := addF_length x out
    have e : mergeF (x :: s) out = mergeF s (addF x out) := rfl
    rw [e]
    simp only [List.length_cons]
    omega
/-- Where the first line of a price stands. -/
theorem price_cases (p : Int) : ∀ l : List S33, (∀ y ∈ l, y.f1 ≠ p) ∨ ∃ u y v, l = u ++ y :: v ∧ y.f1 = p ∧ ∀ z ∈ u, z.f1 ≠ p := by
  intro l
  induction l with
  | nil => exact .inl (fun y hy => by cases hy)
  | cons y l ih =>
    by_cases h : y.f1 = p
    · exact .inr ⟨[], y, l, rfl, h, fun z hz => by cases hz⟩
    · rcases ih with h1 | ⟨u, z, v, rfl, hz, hu⟩
      · refine .inl (fun q hq => ?_)
        rcases List.mem_cons.1 hq with rfl | hq
        · exact h
        · exact h1 q hq
      · refine .inr ⟨y :: u, z, v, rfl, hz, fun q hq => ?_⟩
        rcases List.mem_cons.1 hq with rfl | hq
        · exact h
        · exact hu q hq
theorem impl_find_none {l : List S33} {p : Int} (hl : l.length ≤ 1048576) (h : ∀ y ∈ l, y.f1 ≠ p) : Ev (fun k => slices_IndexFunc_at_impl_MergeBills_1.f k l p) (-1) := by
  simp only [slices_IndexFunc_at_impl_MergeBills_1.f]
  refine loop_list l (fun q s => Ev (fun k => slices_IndexFunc_at_impl_MergeBills_1.l0 k l p (l.length : Int) (q.length : Int)) (-1)) ?_ ?_
  · refine Ev.step (fun k => by rw [slices_IndexFunc_at_impl_MergeBills_1.l0]) ?_
    simp only [if_neg (nlt_self l)]
    exact Ev.now _
  · intro q x s he ih
    have hx : (x.f1 == p) = false := beq_eq_false_iff_ne.2 (h x (by rw [he]; simp))
    refine Ev.step (fun k => by rw [slices_IndexFunc_at_impl_MergeBills_1.l0]) ?_
    simp only [if_pos (mid_lt he), if_pos (nat_nn q.length), rd_T33, mid_get he, impl_MergeBills_1.f, hx, Option.bind_some, Bool.false_eq_true, if_false, mid_next he (by omega)]
    exact ih
theorem impl_find_at {l u v : List S33} {y : S33} {p : Int} (hl : l.length ≤ 1048576) (e : l = u ++ y :: v) (hy : y.f1 = p) (hu : ∀ z ∈ u, z.f1 ≠ p) : Ev (fun k => slices_IndexFunc_at_impl_MergeBills_1.f k l p) (u.length : Int) := by
  simp only [slices_IndexFunc_at_impl_MergeBills_1.f]
  have H : ∀ (s q : List S33), u = q ++ s → Ev (fun k => slices_IndexFunc_at_impl_MergeBills_1.l0 k l p (l.length : Int) (q.length : Int)) (u.length : Int) := by
    intro s
    induction s with
    | nil =>
      intro q hq
      rw [List.append_nil] at hq
      subst hq
      refine Ev.step (fun k => by rw [slices_IndexFunc_at_impl_MergeBills_1.l0]) ?_
      have hx : (y.f1 == p) = true := beq_iff_eq.2 hy
      simp only [if_pos (mid_lt e), if_pos (nat_nn u.length), rd_T33, mid_get e, impl_MergeBills_1.f, hx, Option.bind_some, if_true]
      exact Ev.now _
    | cons x s ih =>
      intro q hq
      have e2 : l = q ++ x :: (s ++ y :: v) := by rw [e, hq]; simp
      have hx : (x.f1 == p) = false := beq_eq_false_iff_ne.2 (hu x (by rw [hq]; simp))
      refine Ev.step (fun k => by rw [slices_IndexFunc_at_impl_MergeBills_1.l0]) ?_
      simp only [if_pos (mid_lt e2), if_pos (nat_nn q.length), rd_T33, mid_get e2, impl_MergeBills_1.f, hx, Option.bind_some, Bool.false_eq_true, if_false, mid_next e2 (by omega)]
      exact ih (q ++ [x]) (by simp [hq])
  exact H u [] rfl
theorem impl_concat (a b : List S33) (ha : a.length ≤ 1000) (hb : b.length ≤ 1000) : Ev (fun k => slices_Concat_Line.f k [a, b]) (a ++ b) := by
  simp only [slices_Concat_Line.f]
  have l2 : (([a, b] : List (List S33)).length : Int) = 2 := rfl
  have r0 : rd_L3 [a, b] 0 = a := rfl
  have r1 : rd_L3 [a, b] 1 = b := rfl
  have w1 : wrap64 ((0 : Int) + 1) = 1 := w64 (by omega) (by omega)
  have w2 : wrap64 ((1 : Int) + 1) = 2 := w64 (by omega) (by omega)
  have e1 : wrap64 (0 + (a.length : Int)) = (a.length : Int) := by rw [Int.zero_add]; exact w64 (by omega) (by omega)
  have e2 : wrap64 ((a.length : Int) + (b.length : Int)) = (a.length : Int) + (b.length : Int) := w64 (by omega) (by omega)
  refine Ev.step (fun k => by rw [slices_Concat_Line.l0]) ?_
  simp only [l2, if_pos (show (0 : Int) < 2 by decide), if_pos (show (0 : Int) ≤ 0 by decide), r0, e1, if_neg (show ¬ (a.length : Int) < 0 by omega), w1]
  refine Ev.step (fun k => by rw [slices_Concat_Line.l0]) ?_
  simp only [l2, if_pos (show (1 : Int) < 2 by decide), if_pos (show (0 : Int) ≤ 1 by decide), r1, e2, if_neg (show ¬ (a.length : Int) + (b.length : Int) < 0 by omega), w2]
  refine Ev.step (fun k => by rw [slices_Concat_Line.l0]) ?_
  simp only [if_neg (show ¬ (2 : Int) < 2 by decide), slices_Grow_Line.f, if_pos (show (0 : Int) ≤ (a.length : Int) + (b.length : Int) by omega), if_pos (show ((a.length : Int) + (b.length : Int)).toNat * 16 ≤ 140737488355328 by omega), Option.bind_some, l2]
  refine Ev.step (fun k => by rw [slices_Concat_Line.l1]) ?_
  simp only [l2, if_pos (show (0 : Int) < 2 by decide), if_pos (show (0 : Int) ≤ 0 by decide), r0, w1, List.nil_append, List.length_nil, if_pos (show 0 + a.length < 8796093022208 by omega)]
  refine Ev.step (fun k => by rw [slices_Concat_Line.l1]) ?_
  simp only [l2, if_pos (show (1 : Int) < 2 by decide), if_pos (show (0 : Int) ≤ 1 by decide), r1, w2, if_pos (show a.length + b.length < 8796093022208 by omega)]
  refine Ev.step (fun k => by rw [slices_Concat_Line.l1]) ?_
  simp only [if_neg (show ¬ (2 : Int) < 2 by decide)]
  exact Ev.now _
theorem impl_mergeloop {l : List S33} (hl : l.length ≤ 1000) {R : List S33 × Int} (hR : Ev (fun k => (impl_IsBill.f k (mergeF l [])).bind fun t => (if t = true then (some (mergeF l [], (0 : Int))) else (some (([] : List S33), 3)))) R) : Ev (fun k => impl_MergeBills.l0 k [] l (l.length : Int) 0) R := by
  refine loop_list l (fun p s => ∀ out : List S33, out.length ≤ p.length → mergeF s out = mergeF l [] → Ev (fun k => impl_MergeBills.l0 k out l (l.length : Int) (p.length : Int)) R) ?_ ?_ [] (by simp) rfl
  · intro out _ ho
    have : out = mergeF l [] := ho
    subst this
    refine Ev.step (fun k => by rw [impl_MergeBills.l0]) ?_
    simp only [if_neg (nlt_self l)]
    exact hR
  · intro p x s he ih out hout ho
    have hp := mid_lt he
    have hx : rd_T33 l (p.length : Int) = x := by unfold rd_T33; exact mid_get he _
    have ih' := ih (addF x out) (by have := addF_length x out; simp; omega) ho
    refine Ev.step (fun k => by rw [impl_MergeBills.l0]) ?_
    simp only [if_pos hp, if_pos (nat_nn p.length), hx, mid_next he (by omega)]
    rcases price_cases x.f1 out with hn | ⟨u, y, v, e, hy, hu⟩
    · refine Ev.bind (impl_find_none (by omega) hn) ?_
      simp only [if_pos (show (-1 : Int) < 0 by decide), if_pos (show out.length < 8796093022208 by omega)]
      rw [addF_new hn] at ih'
      exact ih'
    · refine Ev.bind (impl_find_at (by omega) e hy hu) ?_
      have hyr : rd_T33 out (u.length : Int) = y := by unfold rd_T33; exact mid_get e _
      simp only [if_neg (show ¬ (u.length : Int) < 0 by omega), if_pos (nat_nn u.length), if_pos (mid_lt e), hyr]
      rw [e, addF_at hu hy] at ih'
      rw [e, set_mid]
      exact ih'
theorem spec_mergein {l out : List S33} {x : S33} {i : Nat} (hi : (i : Int) < (l.length : Int)) (hx : rd_T33 l (i : Int) = x) (hl : l.length ≤ 1000) (ho : out.length ≤ 1000) (hr : okLine x = true) {R : List S33 × Int} (h : Ev (fun k => spec_MergeBills.l0 k l (addF x out) (wrap64 ((i : Int) + 1))) R) : Ev (fun k => spec_MergeBills.l1 k l out (i : Int) 0) R := by
  have hxr : wrap64 (0 + x.f0) = x.f0 := by
    simp only [okLine, Bool.and_eq_true, inR_iff] at hr
    rw [Int.zero_add]
    exact w64 (by omega) (by omega)
  rcases price_cases x.f1 out with hn | ⟨u, y, v, e, hy, hu⟩
  · rw [addF_new hn] at h
    refine loop_list out (fun p s => Ev (fun k => spec_MergeBills.l1 k l out (i : Int) (p.length : Int)) R) ?_ ?_
    · have ea : rd_T33 (out ++ [(⟨0, x.f1⟩ : S33)]) (out.length : Int) = ⟨0, x.f1⟩ := get_mid out [] _ _
      have es : (out ++ [(⟨0, x.f1⟩ : S33)]).set ((out.length : Int)).toNat ⟨x.f0, x.f1⟩ = out ++ [⟨x.f0, x.f1⟩] := set_mid out [] _ _
      refine Ev.step (fun k => by rw [spec_MergeBills.l1]) ?_
      simp only [if_neg (nlt_self out), if_true, if_pos (nat_nn i), if_pos hi, hx, if_pos (show out.length < 8796093022208 by omega), Option.bind_some, if_pos (nat_nn out.length), if_pos (show (out.length : Int) < ((out ++ [(⟨0, x.f1⟩ : S33)]).length : Int) by simp; omega), ea, hxr, es]
      exact h
    · intro p z s he ih
      have hz : rd_T33 out (p.length : Int) = z := by unfold rd_T33; exact mid_get he _
      refine Ev.step (fun k => by rw [spec_MergeBills.l1]) ?_
      simp only [if_pos (mid_lt he), if_pos (nat_nn p.length), if_pos (nat_nn i), if_pos hi, hx, hz, if_neg (hn z (by rw [he]; simp)), mid_next he (by omega)]
      exact ih
  · rw [e, addF_at hu hy] at h
    have H : ∀ (s q : List S33), u = q ++ s → Ev (fun k => spec_MergeBills.l1 k l out (i : Int) (q.length : Int)) R := by
      intro s
      induction s with
      | nil =>
        intro q hq
        rw [List.append_nil] at hq
        subst hq
        have hyr : rd_T33 out (u.length : Int) = y := by unfold rd_T33; exact mid_get e _
        refine Ev.step (fun k => by rw [spec_MergeBills.l1]) ?_
        simp only [if_pos (mid_lt e), if_pos (nat_nn u.length), if_pos (nat_nn i), if_pos hi, hx, hyr, if_pos hy, if_neg (show ¬ (u.length : Int) = (out.length : Int) by have := mid_lt e; omega)]
        rw [e, set_mid]
        exact h
      | cons z s ih =>
        intro q hq
        have e2 : out = q ++ z :: (s ++ y :: v) := by rw [e, hq]; simp
        have hz : rd_T33 out (q.length : Int) = z := by unfold rd_T33; exact mid_get e2 _
        refine Ev.step (fun k => by rw [spec_MergeBills.l1]) ?_
        simp only [if_pos (mid_lt e2), if_pos (nat_nn q.length), if_pos (nat_nn i), if_pos hi, hx, hz, if_neg (hu z (by rw [hq]; simp)), mid_next e2 (by omega)]
        exact ih (q ++ [z]) (by simp [hq])
    exact H u [] rfl
theorem spec_mergeloop {l : List S33} (hl : l.length ≤ 1000) (hok : ∀ x ∈ l, okLine x = true) {R : List S33 × Int} (hR : Ev (fun k => (spec_IsBill.f k (mergeF l [])).bind fun t => (if t = true then (some (mergeF l [], (0 : Int))) else (some (([] : List S33), 3)))) R) : Ev (fun k => spec_MergeBills.l0 k l [] 0) R := by
  refine loop_list l (fun p s => ∀ out : List S33, out.length ≤ p.length → mergeF s out = mergeF l [] → Ev (fun k => spec_MergeBills.l0 k l out (p.length : Int)) R) ?_ ?_ [] (by simp) rfl
  · intro out _ ho
    have : out = mergeF l [] := ho
    subst this
    refine Ev.step (fun k => by rw [spec_MergeBills.l0]) ?_
    simp only [if_neg (nlt_self l)]
    exact hR
  · intro p x s he ih out hout ho
    have hp := mid_lt he
    have hx : rd_T33 l (p.length : Int) = x := by unfold rd_T33; exact mid_get he _
    have ih' := ih (addF x out) (by have := addF_length x out; simp; omega) ho
    rw [← mid_next he (by omega)] at ih'
    refine Ev.step (fun k => by rw [spec_MergeBills.l0]) ?_
    simp only [if_pos hp]
    exact spec_mergein hp hx hl (by omega) (hok x (by rw [he]; simp)) ih'
/-- The merged bill, told by both. -/
theorem both_merge (a b : List S33) (ha : a.length ≤ 1048576) (hb : b.length ≤ 1048576) : ∃ r : List S33 × Int, Ev (fun k => spec_MergeBills.f k a b) r ∧ Ev (fun k => impl_MergeBills.f k a b) r ∧ r = if billB a = true then (if billB b = true then (if billB (mergeF (a ++ b) []) = true then (mergeF (a ++ b) [], 0) else ([], 3)) else ([], 1)) else ([], 1) := by
  simp only [spec_MergeBills.f, impl_MergeBills.f]
  have s1 : Ev (fun k => spec_IsBill.f k a) (billB a) := spec_IsBill a ha
  have s2 : Ev (fun k => spec_IsBill.f k b) (billB b) := spec_IsBill b hb
  have i1 : Ev (fun k => impl_IsBill.f k a) (billB a) := impl_IsBill a ha
  have i2 : Ev (fun k => impl_IsBill.f k b) (billB b) := impl_IsBill b hb
  have jf : ∀ x y : List S33, Ev (fun k => spec_MergeBills.j0 k x y true) ([], 1) ∧ Ev (fun k => impl_MergeBills.j0 k x y true) ([], 1) := fun x y =>
    ⟨Ev.step (fun k => by rw [spec_MergeBills.j0]) (by simp only [if_true]; exact Ev.now _), Ev.step (fun k => by rw [impl_MergeBills.j0]) (by simp only [if_true]; exact Ev.now _)⟩
  cases h1 : billB a
  · rw [h1] at s1 i1
    exact ⟨([], 1), Ev.bind s1 (by simp only [Bool.false_eq_true, if_false]; exact (jf a b).1), Ev.bind i1 (by simp only [Bool.false_eq_true, if_false]; exact (jf a b).2), by simp⟩
  rw [h1] at s1 i1
  cases h2 : billB b
  · rw [h2] at s2 i2
    exact ⟨([], 1), Ev.bind s1 (by simp only [if_true]; exact Ev.bind s2 (jf a b).1), Ev.bind i1 (by simp only [if_true]; exact Ev.bind i2 (jf a b).2), by simp⟩
  rw [h2] at s2 i2
  simp only [billB, Bool.and_eq_true, decide_eq_true_eq, List.all_eq_true] at h1 h2
  have hl : (a ++ b).length ≤ 1000 := by simp; omega
  have hm : (mergeF (a ++ b) []).length ≤ 1048576 := by have := mergeF_length (a ++ b) []; simp at this hl; omega
  have s3 : Ev (fun k => spec_IsBill.f k (mergeF (a ++ b) [])) (billB (mergeF (a ++ b) [])) := spec_IsBill _ hm
  have i3 : Ev (fun k => impl_IsBill.f k (mergeF (a ++ b) [])) (billB (mergeF (a ++ b) [])) := impl_IsBill _ hm
  have hok : ∀ x ∈ a ++ b, okLine x = true := by
    intro x hx
    rcases List.mem_append.1 hx with hx | hx
    · exact h1.1 x hx
    · exact h2.1 x hx
  refine ⟨if billB (mergeF (a ++ b) []) = true then (mergeF (a ++ b) [], 0) else ([], 3), Ev.bind s1 ?_, Ev.bind i1 ?_, by simp⟩
  · simp only [if_true]
    refine Ev.bind s2 ?_
    simp only [Bool.not_true]
    refine Ev.step (fun k => by rw [spec_MergeBills.j0]) ?_
    simp only [Bool.false_eq_true, if_false, Option.bind_some, List.nil_append, List.length_nil, if_pos (show 0 + a.length < 8796093022208 by omega), if_pos (show a.length + b.length < 8796093022208 by omega)]
    refine spec_mergeloop hl hok (Ev.bind s3 ?_)
    cases billB (mergeF (a ++ b) []) <;> simp only [Bool.false_eq_true, if_false, if_true] <;> exact Ev.now _
  · simp only [if_true]
    refine Ev.bind i2 ?_
    simp only [Bool.not_true]
    refine Ev.step (fun k => by rw [impl_MergeBills.j0]) ?_
    simp only [Bool.false_eq_true, if_false]
    refine Ev.bind (impl_concat a b (by omega) (by omega)) ?_
    refine impl_mergeloop hl (Ev.bind i3 ?_)
    cases billB (mergeF (a ++ b) []) <;> simp only [Bool.false_eq_true, if_false, if_true] <;> exact Ev.now _
theorem FnExactMergeBills : laws_FnExactMergeBills.Pure := by
  intro a b hla hwa hlb hwb
  refine Ev.rounds (g := fun k => laws_FnExactMergeBills.f k a b) ?_
  simp only [laws_FnExactMergeBills.f, szLine a 1048576 (by omega) (by omega) (by omega), Option.bind_some]
  by_cases hs : (1048576 : Int) - a.length < 0
  · simp only [if_pos hs]
    exact Ev.now _
  · simp only [if_neg hs, szLine b (1048576 - a.length) (by omega) (by omega) (by omega), Option.bind_some]
    by_cases hs2 : (1048576 : Int) - a.length - b.length < 0
    · simp only [if_pos hs2]
      exact Ev.now _
    · simp only [if_neg hs2]
      have h0 : a.length ≤ 1048576 := by omega
      have h0' : b.length ≤ 1048576 := by omega
      have hm : (a.map cvLine).length ≤ 1048576 := by simpa using h0
      have hm' : (b.map cvLine).length ≤ 1048576 := by simpa using h0'
      obtain ⟨r, h1, h2, er⟩ := both_merge (a.map cvLine) (b.map cvLine) hm hm'
      have hr : r.1.length ≤ 1048576 := by
        have hml := mergeF_length (a.map cvLine ++ b.map cvLine) []
        simp only [List.length_append, List.length_map, List.length_nil] at hml
        rw [er]
        split
        · split
          · split
            · show (mergeF _ []).length ≤ _; omega
            · simp
          · simp
        · simp
      have e0 : ¬ (1 + 2 * (r.1.length : Int) < 0) := by omega
      refine Ev.bind (toLineS a h0) ?_
      refine Ev.bind (toLineS b h0') ?_
      refine Ev.bind h1 ?_
      refine Ev.bind (toLineS a h0) ?_
      refine Ev.bind (toLineS b h0') ?_
      refine Ev.bind h2 ?_
      refine Ev.bind (eqLineS _ (by omega)) ?_
      simp only [if_true, bne_self_eq_false]
      refine Ev.step (fun k => by rw [laws_FnExactMergeBills.j0]) ?_
      simp only [Bool.false_eq_true, if_false]
      refine Ev.bind (toLineS a h0) ?_
      refine Ev.bind (eqLineS _ (by omega)) ?_
      simp only [if_true]
      refine Ev.bind (toLineS b h0') ?_
      refine Ev.bind (eqLineS _ (by omega)) ?_
      simp only [if_true]
      refine Ev.bind (markLineS _ 1 (by omega) (by omega) (by omega)) ?_
      refine Ev.bind (markLineS _ _ (by omega) (by omega) (by omega)) ?_
      simp only [if_neg (show ¬ (1 + 2 * ((a.map cvLine).length : Int) + 2 * ((b.map cvLine).length : Int) < 0) by omega)]
      refine Ev.bind (eqLineS _ (by omega)) ?_
      simp only [if_true, bne_self_eq_false]
      refine Ev.step (fun k => by rw [laws_FnExactMergeBills.j1]) ?_
      simp only [Bool.false_eq_true, if_false]
      refine Ev.bind (markLineS _ 1 (by omega) (by omega) (by omega)) ?_
      refine Ev.bind (heldLineS _ 1 (by omega) (by omega)) ?_
      simp only [if_neg e0, if_true]
      refine Ev.bind (toLineS a h0) ?_
      refine Ev.bind (toLineS b h0') ?_
      refine Ev.bind h2 ?_
      refine Ev.bind (eqLineS _ (by omega)) ?_
      simp only [if_true, bne_self_eq_false]
      refine Ev.step (fun k => by rw [laws_FnExactMergeBills.j2]) ?_
      simp only [Bool.false_eq_true, if_false]
      refine Ev.bind (heldLineS _ 1 (by omega) (by omega)) ?_
      simp only [if_neg e0, if_true]
      exact Ev.now _

end Go.Proofs.Ytaomoiedcnbpaaa.Pure
