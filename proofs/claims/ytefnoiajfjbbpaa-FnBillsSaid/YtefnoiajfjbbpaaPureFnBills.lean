/- The pure statement of law FnBills: what the printed functions compute answers true at every input. No condition. -/
import Derived.Test.YtefnoiajfjbbpaaPFnBillsx10
set_option linter.unusedVariables false
set_option linter.unusedSimpArgs false
namespace Go.Proofs.Ytefnoiajfjbbpaa.Pure
open Go.RowKit Go.Proofs.Ytefnoiajfjbbpaa.PFnBills Go.Proofs.YtefnoiajfjbbpaaW.PrintWords Go.Proofs.YtefnoiajfjbbpaaW.PrintLast Go.Proofs.YtefnoiajfjbbpaaW.PrintMore


/-! #### Numbers and rounds -/
theorem w64 {x : Int} (h1 : -9223372036854775808 ≤ x) (h2 : x ≤ 9223372036854775807) : wrap64 x = x := by
  unfold wrap64
  omega
theorem wf64 {x : Int} (h : (Lit.int .i64 x).wf = true) : -9223372036854775808 ≤ x ∧ x ≤ 9223372036854775807 := by
  simp only [Lit.wf, IntKind.min, IntKind.max, IntKind.signed, IntKind.bits, Bool.and_eq_true, decide_eq_true_eq, if_true] at h
  omega
theorem ev_of {α : Type} {g : Nat → Option α} {r : α} (h : ∀ k, g k = some r) : Ev g r := ⟨0, fun k _ => h k⟩
theorem ev_eq {α : Type} {g : Nat → Option α} {r r' : α} (h : Ev g r) (e : r = r') : Ev g r' := e ▸ h
/-- A loop over a list: what lies behind, what lies ahead. -/
theorem loop_list {α : Type} (l : List α) (Q : List α → List α → Prop) (h0 : Q l []) (hs : ∀ p x s, l = p ++ x :: s → Q (p ++ [x]) s → Q p (x :: s)) : Q [] l := by
  have h : ∀ s p, l = p ++ s → Q p s := by
    intro s
    induction s with
    | nil => intro p hp; rw [List.append_nil] at hp; rw [← hp]; exact h0
    | cons x s ih => intro p hp; exact hs p x s hp (ih (p ++ [x]) (by simp [hp]))
  exact h l [] rfl
theorem mid_lt {α : Type} {l p s : List α} {x : α} (h : l = p ++ x :: s) : (p.length : Int) < (l.length : Int) := by
  rw [h, List.length_append, List.length_cons]; omega
theorem mid_next {α : Type} {l p s : List α} {x : α} (h : l = p ++ x :: s) (hl : l.length ≤ 9223372036854775807) : wrap64 ((p.length : Int) + 1) = ((p ++ [x]).length : Int) := by
  have := mid_lt h
  rw [w64 (by omega) (by omega), List.length_append]; simp
theorem mid_get {α : Type} {l p s : List α} {x : α} (h : l = p ++ x :: s) (z : α) : l.getD (p.length : Int).toNat z = x := by
  rw [h]; simp
theorem get_mid {α : Type} (p s : List α) (x z : α) : (p ++ x :: s).getD (p.length : Int).toNat z = x := by simp
theorem nat_nn (n : Nat) : (0 : Int) ≤ (n : Int) := by omega
theorem nlt_self {α : Type} (l : List α) : ¬ ((l.length : Int) < (l.length : Int)) := by omega
theorem set_mid {α : Type} (p s : List α) (x y : α) : (p ++ x :: s).set ((p.length : Int).toNat) y = p ++ y :: s := by
  rw [Int.toNat_natCast, List.set_append_right _ _ (Nat.le_refl _)]; simp
theorem nil_or_snoc {α : Type} (p : List α) : p = [] ∨ ∃ q y, p = q ++ [y] := by
  rcases List.eq_nil_or_concat p with h | ⟨q, y, h⟩
  · exact .inl h
  · exact .inr ⟨q, y, by rw [h, List.concat_eq_append]⟩
theorem loop_all {α : Type} (l : List α) (Q : List α → List α → Prop) (h0 : Q l []) (hs : ∀ p x s, l = p ++ x :: s → Q (p ++ [x]) s → Q p (x :: s)) : ∀ s p, l = p ++ s → Q p s := by
  intro s
  induction s with
  | nil => intro p hp; rw [List.append_nil] at hp; rw [← hp]; exact h0
  | cons x s ih => intro p hp; exact hs p x s hp (ih (p ++ [x]) (by simp [hp]))
def inR (a lo hi : Int) : Bool := decide (lo ≤ a) && decide (a ≤ hi)
theorem inR_iff {a lo hi : Int} : inR a lo hi = true ↔ lo ≤ a ∧ a ≤ hi := by simp [inR]
theorem l01In (a lo hi : Int) : spec_l01In.f a lo hi = some (inR a lo hi) := by
  unfold spec_l01In.f inR
  split
  · rename_i h; rw [decide_eq_true (show lo ≤ a from h), Bool.true_and]
  · rename_i h; rw [decide_eq_false (show ¬ lo ≤ a from h), Bool.false_and]
theorem inRange (a lo hi : Int) : impl_inRange.f a lo hi = some (inR a lo hi) := by
  unfold impl_inRange.f inR
  split
  · rename_i h; rw [decide_eq_true (show lo ≤ a from h), Bool.true_and]
  · rename_i h; rw [decide_eq_false (show ¬ lo ≤ a from h), Bool.false_and]
def okLine (x : S107) : Bool := inR x.f0 0 1000000 && inR x.f1 0 1000000
theorem spec_IsBill (l : List S107) (h : l.length ≤ 1048576) : Ev (fun k => spec_IsBill.f k l) (l.all okLine && decide (l.length ≤ 40)) := by
  refine loop_list l (fun p s => Ev (fun k => spec_IsBill.l0 k l (p.length : Int)) (s.all okLine && decide (l.length ≤ 40))) ?_ ?_
  · refine Ev.step (fun k => by rw [spec_IsBill.l0]) ?_
    simp only [if_neg (nlt_self l), List.all_nil, Bool.true_and]
    exact ev_eq (Ev.now _) (decide_eq_decide.2 (by omega))
  · intro p x s he ih
    refine Ev.step (fun k => by rw [spec_IsBill.l0]) ?_
    simp only [if_pos (mid_lt he), if_pos (nat_nn p.length), mid_next he (by omega), rd_T107, mid_get he, l01In, Option.bind_some, List.all_cons]
    cases h0 : inR x.f0 0 1000000 <;> cases h1 : inR x.f1 0 1000000 <;> simp [okLine, h0, h1] <;> first | exact Ev.now _ | simpa [mid_next he (by omega)] using ih
theorem impl_IsBill_1_ok (x : S107) : impl_IsBill_1.f x.f0 x.f1 = some (!(okLine x)) := by
  simp only [impl_IsBill_1.f, impl_isRun.f, impl_isPrice.f, inRange, Option.bind_some, okLine]
  cases inR x.f0 0 1000000 <;> cases inR x.f1 0 1000000 <;> rfl
theorem contains_impl_IsBill_1 (l : List S107) (h : l.length ≤ 1048576) : Ev (fun k => slices_ContainsFunc_at_impl_IsBill_1.f k l) (!(l.all okLine)) := by
  have H := loop_list l (fun p s => ∃ r, Ev (fun k => slices_IndexFunc_at_impl_IsBill_1.l0 k l (l.length : Int) (p.length : Int)) r ∧ decide (r ≥ 0) = !(s.all okLine)) ?_ ?_
  · obtain ⟨r, hr, e⟩ := H
    rw [← e]
    exact Ev.bind hr (Ev.now _)
  · refine ⟨-1, Ev.step (fun k => by rw [slices_IndexFunc_at_impl_IsBill_1.l0]) ?_, by simp⟩
    simp only [if_neg (nlt_self l)]
    exact Ev.now _
  · rintro p x s he ⟨r, ih, e⟩
    by_cases hx : okLine x = true
    · refine ⟨r, Ev.step (fun k => by rw [slices_IndexFunc_at_impl_IsBill_1.l0]) ?_, by rw [e]; simp [hx]⟩
      simp only [if_pos (mid_lt he), if_pos (nat_nn p.length), rd_T107, mid_get he, impl_IsBill_1_ok, hx, Option.bind_some, mid_next he (by omega)]
      exact ih
    · refine ⟨(p.length : Int), Ev.step (fun k => by rw [slices_IndexFunc_at_impl_IsBill_1.l0]) ?_, by simp [hx]⟩
      simp only [if_pos (mid_lt he), if_pos (nat_nn p.length), rd_T107, mid_get he, impl_IsBill_1_ok, Bool.eq_false_iff.2 hx, Option.bind_some]
      exact Ev.now _
theorem impl_IsBill (l : List S107) (h : l.length ≤ 1048576) : Ev (fun k => impl_IsBill.f k l) (l.all okLine && decide (l.length ≤ 40)) := by
  simp only [impl_IsBill.f]
  by_cases hl : (l.length : Int) ≤ 40
  · simp only [if_pos hl]
    exact ev_eq (Ev.bind (contains_impl_IsBill_1 l h) (Ev.now _)) (by simp [show l.length ≤ 40 by omega])
  · simp only [if_neg hl]
    exact ev_eq (Ev.now _) (by simp [show ¬ l.length ≤ 40 by omega])

def billB (l : List S107) : Bool := l.all okLine && decide (l.length ≤ 40)
/-- A line added to a bill: to the first line of the same price, or behind all. -/
def addF (x : S107) : List S107 → List S107
  | [] => [⟨x.f0, x.f1⟩]
  | y :: t => if y.f1 = x.f1 then ⟨wrap64 (y.f0 + x.f0), y.f1⟩ :: t else y :: addF x t
def mergeF (s out : List S107) : List S107 := s.foldl (fun o x => addF x o) out
theorem addF_new {x : S107} : ∀ {l : List S107}, (∀ y ∈ l, y.f1 ≠ x.f1) → addF x l = l ++ [⟨x.f0, x.f1⟩] := by
  intro l
  induction l with
  | nil => intro _; rfl
  | cons y l ih =>
    intro h
    simp only [addF, if_neg (h y (by simp)), List.cons_append, ih (fun z hz => h z (by simp [hz]))]
theorem addF_at {x y : S107} {v : List S107} : ∀ {u : List S107}, (∀ z ∈ u, z.f1 ≠ x.f1) → y.f1 = x.f1 → addF x (u ++ y :: v) = u ++ ⟨wrap64 (y.f0 + x.f0), y.f1⟩ :: v := by
  intro u
  induction u with
  | nil => intro _ hy; simp only [List.nil_append, addF, if_pos hy]
  | cons z u ih =>
    intro h hy
    simp only [List.cons_append, addF, if_neg (h z (by simp)), ih (fun q hq => h q (by simp [hq])) hy]
theorem addF_length (x : S107) : ∀ l : List S107, (addF x l).length ≤ l.length + 1 := by
  intro l
  induction l with
  | nil => simp [addF]
  | cons y l ih => simp only [addF]; split <;> simp; omega
theorem mergeF_length : ∀ s out : List S107, (mergeF s out).length ≤ out.length + s.length := by
  intro s
  induction s with
  | nil => intro out; simp [mergeF]
  | cons x s ih =>
    intro out
    have h1 := ih (addF x out)
    have h2 := addF_length x out
    have e : mergeF (x :: s) out = mergeF s (addF x out) := rfl
    rw [e]
    simp only [List.length_cons]
    omega
/-- Where the first line of a price stands. -/
theorem price_cases (p : Int) : ∀ l : List S107, (∀ y ∈ l, y.f1 ≠ p) ∨ ∃ u y v, l = u ++ y :: v ∧ y.f1 = p ∧ ∀ z ∈ u, z.f1 ≠ p := by
  intro l
  induction l with
  | nil => exact .inl (fun y hy => by cases hy)
  | cons y l ih =>
    by_cases h : y.f1 = p
    · exact .inr ⟨[], y, l, rfl, h, fun z hz => by cases hz⟩
    · rcases ih with h1 | ⟨u, z, v, rfl, hz, hu⟩
      · refine .inl (fun q hq => ?_)
        rcases List.mem_cons.1 hq with rfl | hq
        · exact h
        · exact h1 q hq
      · refine .inr ⟨y :: u, z, v, rfl, hz, fun q hq => ?_⟩
        rcases List.mem_cons.1 hq with rfl | hq
        · exact h
        · exact hu q hq
theorem impl_find_none {l : List S107} {p : Int} (hl : l.length ≤ 1048576) (h : ∀ y ∈ l, y.f1 ≠ p) : Ev (fun k => slices_IndexFunc_at_impl_MergeBills_1.f k l p) (-1) := by
  simp only [slices_IndexFunc_at_impl_MergeBills_1.f]
  refine loop_list l (fun q s => Ev (fun k => slices_IndexFunc_at_impl_MergeBills_1.l0 k l p (l.length : Int) (q.length : Int)) (-1)) ?_ ?_
  · refine Ev.step (fun k => by rw [slices_IndexFunc_at_impl_MergeBills_1.l0]) ?_
    simp only [if_neg (nlt_self l)]
    exact Ev.now _
  · intro q x s he ih
    have hx : (x.f1 == p) = false := beq_eq_false_iff_ne.2 (h x (by rw [he]; simp))
    refine Ev.step (fun k => by rw [slices_IndexFunc_at_impl_MergeBills_1.l0]) ?_
    simp only [if_pos (mid_lt he), if_pos (nat_nn q.length), rd_T107, mid_get he, impl_MergeBills_1.f, hx, Option.bind_some, Bool.false_eq_true, if_false, mid_next he (by omega)]
    exact ih
theorem impl_find_at {l u v : List S107} {y : S107} {p : Int} (hl : l.length ≤ 1048576) (e : l = u ++ y :: v) (hy : y.f1 = p) (hu : ∀ z ∈ u, z.f1 ≠ p) : Ev (fun k => slices_IndexFunc_at_impl_MergeBills_1.f k l p) (u.length : Int) := by
  simp only [slices_IndexFunc_at_impl_MergeBills_1.f]
  have H : ∀ (s q : List S107), u = q ++ s → Ev (fun k => slices_IndexFunc_at_impl_MergeBills_1.l0 k l p (l.length : Int) (q.length : Int)) (u.length : Int) := by
    intro s
    induction s with
    | nil =>
      intro q hq
      rw [List.append_nil] at hq
      subst hq
      refine Ev.step (fun k => by rw [slices_IndexFunc_at_impl_MergeBills_1.l0]) ?_
      have hx : (y.f1 == p) = true := beq_iff_eq.2 hy
      simp only [if_pos (mid_lt e), if_pos (nat_nn u.length), rd_T107, mid_get e, impl_MergeBills_1.f, hx, Option.bind_some, if_true]
      exact Ev.now _
    | cons x s ih =>
      intro q hq
      have e2 : l = q ++ x :: (s ++ y :: v) := by rw [e, hq]; simp
      have hx : (x.f1 == p) = false := beq_eq_false_iff_ne.2 (hu x (by rw [hq]; simp))
      refine Ev.step (fun k => by rw [slices_IndexFunc_at_impl_MergeBills_1.l0]) ?_
      simp only [if_pos (mid_lt e2), if_pos (nat_nn q.length), rd_T107, mid_get e2, impl_MergeBills_1.f, hx, Option.bind_some, Bool.false_eq_true, if_false, mid_next e2 (by omega)]
      exact ih (q ++ [x]) (by simp [hq])
  exact H u [] rfl
theorem impl_concat (a b : List S107) (ha : a.length ≤ 1000) (hb : b.length ≤ 1000) : Ev (fun k => slices_Concat_Line.f k [a, b]) (a ++ b) := by
  simp only [slices_Concat_Line.f]
  have l2 : (([a, b] : List (List S107)).length : Int) = 2 := rfl
  have r0 : rd_L3 [a, b] 0 = a := rfl
  have r1 : rd_L3 [a, b] 1 = b := rfl
  have w1 : wrap64 ((0 : Int) + 1) = 1 := w64 (by omega) (by omega)
  have w2 : wrap64 ((1 : Int) + 1) = 2 := w64 (by omega) (by omega)
  have e1 : wrap64 (0 + (a.length : Int)) = (a.length : Int) := by rw [Int.zero_add]; exact w64 (by omega) (by omega)
  have e2 : wrap64 ((a.length : Int) + (b.length : Int)) = (a.length : Int) + (b.length : Int) := w64 (by omega) (by omega)
  refine Ev.step (fun k => by rw [slices_Concat_Line.l0]) ?_
  simp only [l2, if_pos (show (0 : Int) < 2 by decide), if_pos (show (0 : Int) ≤ 0 by decide), r0, e1, if_neg (show ¬ (a.length : Int) < 0 by omega), w1]
  refine Ev.step (fun k => by rw [slices_Concat_Line.l0]) ?_
  simp only [l2, if_pos (show (1 : Int) < 2 by decide), if_pos (show (0 : Int) ≤ 1 by decide), r1, e2, if_neg (show ¬ (a.length : Int) + (b.length : Int) < 0 by omega), w2]
  refine Ev.step (fun k => by rw [slices_Concat_Line.l0]) ?_
  simp only [if_neg (show ¬ (2 : Int) < 2 by decide), slices_Grow_Line.f, if_pos (show (0 : Int) ≤ (a.length : Int) + (b.length : Int) by omega), if_pos (show ((a.length : Int) + (b.length : Int)).toNat * 16 ≤ 140737488355328 by omega), Option.bind_some, l2]
  refine Ev.step (fun k => by rw [slices_Concat_Line.l1]) ?_
  simp only [l2, if_pos (show (0 : Int) < 2 by decide), if_pos (show (0 : Int) ≤ 0 by decide), r0, w1, List.nil_append, List.length_nil, if_pos (show 0 + a.length < 8796093022208 by omega)]
  refine Ev.step (fun k => by rw [slices_Concat_Line.l1]) ?_
  simp only [l2, if_pos (show (1 : Int) < 2 by decide), if_pos (show (0 : Int) ≤ 1 by decide), r1, w2, if_pos (show a.length + b.length < 8796093022208 by omega)]
  refine Ev.step (fun k => by rw [slices_Concat_Line.l1]) ?_
  simp only [if_neg (show ¬ (2 : Int) < 2 by decide)]
  exact Ev.now _
theorem impl_mergeloop {l : List S107} (hl : l.length ≤ 1000) {R : List S107 × Int} (hR : Ev (fun k => (impl_IsBill.f k (mergeF l [])).bind fun t => (if t = true then (some (mergeF l [], (0 : Int))) else (some (([] : List S107), 3)))) R) : Ev (fun k => impl_MergeBills.l0 k [] l (l.length : Int) 0) R := by
  refine loop_list l (fun p s => ∀ out : List S107, out.length ≤ p.length → mergeF s out = mergeF l [] → Ev (fun k => impl_MergeBills.l0 k out l (l.length : Int) (p.length : Int)) R) ?_ ?_ [] (by simp) rfl
  · intro out _ ho
    have : out = mergeF l [] := ho
    subst this
    refine Ev.step (fun k => by rw [impl_MergeBills.l0]) ?_
    simp only [if_neg (nlt_self l)]
    exact hR
  · intro p x s he ih out hout ho
    have hp := mid_lt he
    have hx : rd_T107 l (p.length : Int) = x := by unfold rd_T107; exact mid_get he _
    have ih' := ih (addF x out) (by have := addF_length x out; simp; omega) ho
    refine Ev.step (fun k => by rw [impl_MergeBills.l0]) ?_
    simp only [if_pos hp, if_pos (nat_nn p.length), hx, mid_next he (by omega)]
    rcases price_cases x.f1 out with hn | ⟨u, y, v, e, hy, hu⟩
    · refine Ev.bind (impl_find_none (by omega) hn) ?_
      simp only [if_pos (show (-1 : Int) < 0 by decide), if_pos (show out.length < 8796093022208 by omega)]
      rw [addF_new hn] at ih'
      exact ih'
    · refine Ev.bind (impl_find_at (by omega) e hy hu) ?_
      have hyr : rd_T107 out (u.length : Int) = y := by unfold rd_T107; exact mid_get e _
      simp only [if_neg (show ¬ (u.length : Int) < 0 by omega), if_pos (nat_nn u.length), if_pos (mid_lt e), hyr]
      rw [e, addF_at hu hy] at ih'
      rw [e, set_mid]
      exact ih'
theorem spec_mergein {l out : List S107} {x : S107} {i : Nat} (hi : (i : Int) < (l.length : Int)) (hx : rd_T107 l (i : Int) = x) (hl : l.length ≤ 1000) (ho : out.length ≤ 1000) (hr : okLine x = true) {R : List S107 × Int} (h : Ev (fun k => spec_MergeBills.l0 k l (addF x out) (wrap64 ((i : Int) + 1))) R) : Ev (fun k => spec_MergeBills.l1 k l out (i : Int) 0) R := by
  have hxr : wrap64 (0 + x.f0) = x.f0 := by
    simp only [okLine, Bool.and_eq_true, inR_iff] at hr
    rw [Int.zero_add]
    exact w64 (by omega) (by omega)
  rcases price_cases x.f1 out with hn | ⟨u, y, v, e, hy, hu⟩
  · rw [addF_new hn] at h
    refine loop_list out (fun p s => Ev (fun k => spec_MergeBills.l1 k l out (i : Int) (p.length : Int)) R) ?_ ?_
    · have ea : rd_T107 (out ++ [(⟨0, x.f1⟩ : S107)]) (out.length : Int) = ⟨0, x.f1⟩ := get_mid out [] _ _
      have es : (out ++ [(⟨0, x.f1⟩ : S107)]).set ((out.length : Int)).toNat ⟨x.f0, x.f1⟩ = out ++ [⟨x.f0, x.f1⟩] := set_mid out [] _ _
      refine Ev.step (fun k => by rw [spec_MergeBills.l1]) ?_
      simp only [if_neg (nlt_self out), if_true, if_pos (nat_nn i), if_pos hi, hx, if_pos (show out.length < 8796093022208 by omega), Option.bind_some, if_pos (nat_nn out.length), if_pos (show (out.length : Int) < ((out ++ [(⟨0, x.f1⟩ : S107)]).length : Int) by simp; omega), ea, hxr, es]
      exact h
    · intro p z s he ih
      have hz : rd_T107 out (p.length : Int) = z := by unfold rd_T107; exact mid_get he _
      refine Ev.step (fun k => by rw [spec_MergeBills.l1]) ?_
      simp only [if_pos (mid_lt he), if_pos (nat_nn p.length), if_pos (nat_nn i), if_pos hi, hx, hz, if_neg (hn z (by rw [he]; simp)), mid_next he (by omega)]
      exact ih
  · rw [e, addF_at hu hy] at h
    have H : ∀ (s q : List S107), u = q ++ s → Ev (fun k => spec_MergeBills.l1 k l out (i : Int) (q.length : Int)) R := by
      intro s
      induction s with
      | nil =>
        intro q hq
        rw [List.append_nil] at hq
        subst hq
        have hyr : rd_T107 out (u.length : Int) = y := by unfold rd_T107; exact mid_get e _
        refine Ev.step (fun k => by rw [spec_MergeBills.l1]) ?_
        simp only [if_pos (mid_lt e), if_pos (nat_nn u.length), if_pos (nat_nn i), if_pos hi, hx, hyr, if_pos hy, if_neg (show ¬ (u.length : Int) = (out.length : Int) by have := mid_lt e; omega)]
        rw [e, set_mid]
        exact h
      | cons z s ih =>
        intro q hq
        have e2 : out = q ++ z :: (s ++ y :: v) := by rw [e, hq]; simp
        have hz : rd_T107 out (q.length : Int) = z := by unfold rd_T107; exact mid_get e2 _
        refine Ev.step (fun k => by rw [spec_MergeBills.l1]) ?_
        simp only [if_pos (mid_lt e2), if_pos (nat_nn q.length), if_pos (nat_nn i), if_pos hi, hx, hz, if_neg (hu z (by rw [hq]; simp)), mid_next e2 (by omega)]
        exact ih (q ++ [z]) (by simp [hq])
    exact H u [] rfl
theorem spec_mergeloop {l : List S107} (hl : l.length ≤ 1000) (hok : ∀ x ∈ l, okLine x = true) {R : List S107 × Int} (hR : Ev (fun k => (spec_IsBill.f k (mergeF l [])).bind fun t => (if t = true then (some (mergeF l [], (0 : Int))) else (some (([] : List S107), 3)))) R) : Ev (fun k => spec_MergeBills.l0 k l [] 0) R := by
  refine loop_list l (fun p s => ∀ out : List S107, out.length ≤ p.length → mergeF s out = mergeF l [] → Ev (fun k => spec_MergeBills.l0 k l out (p.length : Int)) R) ?_ ?_ [] (by simp) rfl
  · intro out _ ho
    have : out = mergeF l [] := ho
    subst this
    refine Ev.step (fun k => by rw [spec_MergeBills.l0]) ?_
    simp only [if_neg (nlt_self l)]
    exact hR
  · intro p x s he ih out hout ho
    have hp := mid_lt he
    have hx : rd_T107 l (p.length : Int) = x := by unfold rd_T107; exact mid_get he _
    have ih' := ih (addF x out) (by have := addF_length x out; simp; omega) ho
    rw [← mid_next he (by omega)] at ih'
    refine Ev.step (fun k => by rw [spec_MergeBills.l0]) ?_
    simp only [if_pos hp]
    exact spec_mergein hp hx hl (by omega) (hok x (by rw [he]; simp)) ih'
/-- The merged bill, told by both. -/
theorem both_merge (a b : List S107) (ha : a.length ≤ 1048576) (hb : b.length ≤ 1048576) : ∃ r : List S107 × Int, Ev (fun k => spec_MergeBills.f k a b) r ∧ Ev (fun k => impl_MergeBills.f k a b) r ∧ r = if billB a = true then (if billB b = true then (if billB (mergeF (a ++ b) []) = true then (mergeF (a ++ b) [], 0) else ([], 3)) else ([], 1)) else ([], 1) := by
  simp only [spec_MergeBills.f, impl_MergeBills.f]
  have s1 : Ev (fun k => spec_IsBill.f k a) (billB a) := spec_IsBill a ha
  have s2 : Ev (fun k => spec_IsBill.f k b) (billB b) := spec_IsBill b hb
  have i1 : Ev (fun k => impl_IsBill.f k a) (billB a) := impl_IsBill a ha
  have i2 : Ev (fun k => impl_IsBill.f k b) (billB b) := impl_IsBill b hb
  have jf : ∀ x y : List S107, Ev (fun k => spec_MergeBills.j0 k x y true) ([], 1) ∧ Ev (fun k => impl_MergeBills.j0 k x y true) ([], 1) := fun x y =>
    ⟨Ev.step (fun k => by rw [spec_MergeBills.j0]) (by simp only [if_true]; exact Ev.now _), Ev.step (fun k => by rw [impl_MergeBills.j0]) (by simp only [if_true]; exact Ev.now _)⟩
  cases h1 : billB a
  · rw [h1] at s1 i1
    exact ⟨([], 1), Ev.bind s1 (by simp only [Bool.false_eq_true, if_false]; exact (jf a b).1), Ev.bind i1 (by simp only [Bool.false_eq_true, if_false]; exact (jf a b).2), by simp⟩
  rw [h1] at s1 i1
  cases h2 : billB b
  · rw [h2] at s2 i2
    exact ⟨([], 1), Ev.bind s1 (by simp only [if_true]; exact Ev.bind s2 (jf a b).1), Ev.bind i1 (by simp only [if_true]; exact Ev.bind i2 (jf a b).2), by simp⟩
  rw [h2] at s2 i2
  simp only [billB, Bool.and_eq_true, decide_eq_true_eq, List.all_eq_true] at h1 h2
  have hl : (a ++ b).length ≤ 1000 := by simp; omega
  have hm : (mergeF (a ++ b) []).length ≤ 1048576 := by have := mergeF_length (a ++ b) []; simp at this hl; omega
  have s3 : Ev (fun k => spec_IsBill.f k (mergeF (a ++ b) [])) (billB (mergeF (a ++ b) [])) := spec_IsBill _ hm
  have i3 : Ev (fun k => impl_IsBill.f k (mergeF (a ++ b) [])) (billB (mergeF (a ++ b) [])) := impl_IsBill _ hm
  have hok : ∀ x ∈ a ++ b, okLine x = true := by
    intro x hx
    rcases List.mem_append.1 hx with hx | hx
    · exact h1.1 x hx
    · exact h2.1 x hx
  refine ⟨if billB (mergeF (a ++ b) []) = true then (mergeF (a ++ b) [], 0) else ([], 3), Ev.bind s1 ?_, Ev.bind i1 ?_, by simp⟩
  · simp only [if_true]
    refine Ev.bind s2 ?_
    simp only [Bool.not_true]
    refine Ev.step (fun k => by rw [spec_MergeBills.j0]) ?_
    simp only [Bool.false_eq_true, if_false, Option.bind_some, List.nil_append, List.length_nil, if_pos (show 0 + a.length < 8796093022208 by omega), if_pos (show a.length + b.length < 8796093022208 by omega)]
    refine spec_mergeloop hl hok (Ev.bind s3 ?_)
    cases billB (mergeF (a ++ b) []) <;> simp only [Bool.false_eq_true, if_false, if_true] <;> exact Ev.now _
  · simp only [if_true]
    refine Ev.bind i2 ?_
    simp only [Bool.not_true]
    refine Ev.step (fun k => by rw [impl_MergeBills.j0]) ?_
    simp only [Bool.false_eq_true, if_false]
    refine Ev.bind (impl_concat a b (by omega) (by omega)) ?_
    refine impl_mergeloop hl (Ev.bind i3 ?_)
    cases billB (mergeF (a ++ b) []) <;> simp only [Bool.false_eq_true, if_false, if_true] <;> exact Ev.now _
def sumB (l : List S107) : Int := l.foldl (fun acc x => wrap64 (acc + wrap64 (x.f0 * x.f1))) 0
theorem spec_sum (l : List S107) (h : l.length ≤ 1048576) : Ev (fun k => spec_l23Sum.f k l) (sumB l) := by
  refine loop_list l (fun p s => ∀ acc, Ev (fun k => spec_l23Sum.l0 k l acc (p.length : Int)) (s.foldl (fun acc x => wrap64 (acc + wrap64 (x.f0 * x.f1))) acc)) ?_ ?_ 0
  · intro acc
    refine Ev.step (fun k => by rw [spec_l23Sum.l0]) ?_
    simp only [if_neg (nlt_self l), List.foldl_nil]
    exact Ev.now _
  · intro p x s he ih acc
    refine Ev.step (fun k => by rw [spec_l23Sum.l0]) ?_
    simp only [if_pos (mid_lt he), if_pos (nat_nn p.length), rd_T107, mid_get he, mid_next he (by omega), List.foldl_cons]
    exact ih _
theorem impl_sum (l : List S107) (h : l.length ≤ 1048576) : Ev (fun k => impl_billed.f k l) (sumB l) := by
  refine loop_list l (fun p s => ∀ acc, Ev (fun k => impl_billed.l0 k acc l (l.length : Int) (p.length : Int)) (s.foldl (fun acc x => wrap64 (acc + wrap64 (x.f0 * x.f1))) acc)) ?_ ?_ 0
  · intro acc
    refine Ev.step (fun k => by rw [impl_billed.l0]) ?_
    simp only [if_neg (nlt_self l), List.foldl_nil]
    exact Ev.now _
  · intro p x s he ih acc
    refine Ev.step (fun k => by rw [impl_billed.l0]) ?_
    simp only [if_pos (mid_lt he), if_pos (nat_nn p.length), rd_T107, mid_get he, mid_next he (by omega), List.foldl_cons]
    exact ih _
theorem both_sum (l : List S107) (h : l.length ≤ 1048576) : ∃ s, Ev (fun k => spec_l23Sum.f k l) s ∧ Ev (fun k => impl_billed.f k l) s := ⟨sumB l, spec_sum l h, impl_sum l h⟩
def quo (a b : Int) : Int := wrap64 (Int.tdiv (wrap64 ((wrap64 (a + b)) - 1)) b)
theorem l01Ceil (a b : Int) (h : b ≠ 0) : spec_l01Ceil.f a b = some (quo a b) := by
  unfold spec_l01Ceil.f
  rw [if_neg h]
  rfl
theorem quotient (a b : Int) (h : b ≠ 0) : impl_quotient.f a b = some (quo a b) := by
  unfold impl_quotient.f
  rw [if_neg h]
  rfl
/-- The bill's sum, without bounds. -/
def exS : List S107 → Int
  | [] => 0
  | x :: t => x.f0 * x.f1 + exS t
theorem exS_append (a b : List S107) : exS (a ++ b) = exS a + exS b := by
  induction a with
  | nil => simp [exS]
  | cons x a ih => simp only [List.cons_append, exS, ih]; omega
theorem ok_mul {x : S107} (h : okLine x = true) : 0 ≤ x.f0 * x.f1 ∧ x.f0 * x.f1 ≤ 1000000000000 := by
  simp only [okLine, Bool.and_eq_true, inR_iff] at h
  have h1 : x.f0 * x.f1 ≤ 1000000 * 1000000 := Int.mul_le_mul h.1.2 h.2.2 h.2.1 (by omega)
  exact ⟨Int.mul_nonneg h.1.1 h.2.1, by omega⟩
theorem exS_bound : ∀ l : List S107, (∀ x ∈ l, okLine x = true) → 0 ≤ exS l ∧ exS l ≤ 1000000000000 * l.length := by
  intro l
  induction l with
  | nil => intro _; simp [exS]
  | cons x l ih =>
    intro h
    have h1 := ok_mul (h x (by simp))
    have h2 := ih (fun y hy => h y (by simp [hy]))
    simp only [exS, List.length_cons]
    omega
theorem fold_ex : ∀ (l : List S107) (acc : Int), (∀ x ∈ l, okLine x = true) → 0 ≤ acc → acc + 1000000000000 * l.length ≤ 1000000000000000000 → l.foldl (fun acc x => wrap64 (acc + wrap64 (x.f0 * x.f1))) acc = acc + exS l := by
  intro l
  induction l with
  | nil => intro acc _ _ _; simp [exS]
  | cons x l ih =>
    intro acc h h0 hb
    have h1 := ok_mul (h x (by simp))
    simp only [List.length_cons] at hb
    simp only [List.foldl_cons, exS]
    rw [w64 (x := x.f0 * x.f1) (by omega) (by omega), w64 (x := acc + x.f0 * x.f1) (by omega) (by omega), ih _ (fun y hy => h y (by simp [hy])) (by omega) (by omega)]
    omega
theorem billB_ok {l : List S107} (h : billB l = true) : (∀ x ∈ l, okLine x = true) ∧ l.length ≤ 40 := by
  simpa only [billB, Bool.and_eq_true, decide_eq_true_eq, List.all_eq_true] using h
theorem sumB_ex {l : List S107} (h : billB l = true) : sumB l = exS l ∧ 0 ≤ exS l ∧ exS l ≤ 40000000000000 := by
  obtain ⟨h1, h2⟩ := billB_ok h
  have h3 := exS_bound l h1
  refine ⟨?_, by omega⟩
  have := fold_ex l 0 h1 (by omega) (by omega)
  simpa [sumB] using this
theorem addF_ex {x : S107} (hx : okLine x = true) {B : Int} (hB : B ≤ 1000000000000) (h0 : 0 ≤ B) : ∀ out : List S107, (∀ y ∈ out, 0 ≤ y.f0 ∧ y.f0 ≤ B) → exS (addF x out) = exS out + x.f0 * x.f1 ∧ ∀ y ∈ addF x out, 0 ≤ y.f0 ∧ y.f0 ≤ B + 1000000 := by
  simp only [okLine, Bool.and_eq_true, inR_iff] at hx
  intro out
  induction out with
  | nil =>
    intro _
    refine ⟨by simp [addF, exS], fun y hy => ?_⟩
    simp only [addF, List.mem_singleton] at hy
    subst hy
    simp only
    omega
  | cons y out ih =>
    intro h
    have hy := h y (by simp)
    have ih := ih (fun z hz => h z (by simp [hz]))
    by_cases e : y.f1 = x.f1
    · have ew : wrap64 (y.f0 + x.f0) = y.f0 + x.f0 := w64 (by omega) (by omega)
      simp only [addF, if_pos e, ew]
      refine ⟨?_, fun z hz => ?_⟩
      · simp only [exS, Int.add_mul, e]
        omega
      · rcases List.mem_cons.1 hz with rfl | hz
        · simp only; omega
        · have := h z (by simp [hz]); omega
    · simp only [addF, if_neg e]
      refine ⟨?_, fun z hz => ?_⟩
      · simp only [exS, ih.1]
        omega
      · rcases List.mem_cons.1 hz with rfl | hz
        · omega
        · exact ih.2 z hz
theorem mergeF_ex : ∀ (s out : List S107) (B : Int), (∀ x ∈ s, okLine x = true) → (∀ y ∈ out, 0 ≤ y.f0 ∧ y.f0 ≤ B) → 0 ≤ B → B + 1000000 * s.length ≤ 1000000000000 → exS (mergeF s out) = exS out + exS s := by
  intro s
  induction s with
  | nil => intro out B _ _ _ _; simp [mergeF, exS]
  | cons x s ih =>
    intro out B hs ho h0 hb
    simp only [List.length_cons] at hb
    obtain ⟨e1, e2⟩ := addF_ex (hs x (by simp)) (B := B) (by omega) h0 out ho
    have e : mergeF (x :: s) out = mergeF s (addF x out) := rfl
    rw [e, ih (addF x out) (B + 1000000) (fun y hy => hs y (by simp [hy])) e2 (by omega) (by omega), e1]
    simp only [exS]
    omega
theorem merge_ex {a b : List S107} (ha : billB a = true) (hb : billB b = true) : exS (mergeF (a ++ b) []) = exS a + exS b := by
  obtain ⟨a1, a2⟩ := billB_ok ha
  obtain ⟨b1, b2⟩ := billB_ok hb
  rw [mergeF_ex (a ++ b) [] 0 ?_ (fun y hy => by cases hy) (by omega) (by simp; omega), exS_append]
  · simp [exS]
  · intro x hx
    rcases List.mem_append.1 hx with hx | hx
    · exact a1 x hx
    · exact b1 x hx
/-! #### The sum, told -/
def sumT (l : List S107) : Int × Int := if billB l = true then (sumB l, 0) else (0, 1)
theorem sum_told (l : List S107) (h : l.length ≤ 1048576) : Ev (fun k => spec_SumOfBill.f k l) (sumT l) ∧ Ev (fun k => impl_SumOfBill.f k l) (sumT l) := by
  have h1 := spec_sum l h
  have h2 := impl_sum l h
  have s1 : Ev (fun k => spec_IsBill.f k l) (billB l) := spec_IsBill l h
  have s2 : Ev (fun k => impl_IsBill.f k l) (billB l) := impl_IsBill l h
  simp only [spec_SumOfBill.f, impl_SumOfBill.f, sumT]
  cases hb : billB l <;> rw [hb] at s1 s2
  · refine ⟨Ev.bind s1 ?_, Ev.bind s2 ?_⟩ <;> simp only [Bool.false_eq_true, if_false] <;> exact Ev.now _
  · refine ⟨Ev.bind s1 ?_, Ev.bind s2 ?_⟩ <;> simp only [if_true]
    · exact Ev.bind h1 (Ev.now _)
    · exact Ev.bind h2 (Ev.now _)
/-! #### The variance, told -/
def varF (x y : S107) : Int := wrap64 (wrap64 (y.f0 * y.f1) - wrap64 (x.f0 * x.f1))
theorem var_loop {a b : List S107} (ha : a.length ≤ 1048576) (hb : b.length ≤ 1048576) : ∀ (s t p q : List S107) (acc : List Int), a = p ++ s → b = q ++ t → p.length = q.length → s.length = t.length → acc.length = p.length → Ev (fun k => spec_VarianceOf.l0 k a b acc (p.length : Int)) (acc ++ List.zipWith varF s t, 0) ∧ Ev (fun k => impl_VarianceOf.l0 k a acc b (b.length : Int) (p.length : Int)) (acc ++ List.zipWith varF s t, 0) := by
  intro s
  induction s with
  | nil =>
    intro t p q acc e1 e2 hpq hst _
    have ht : t = [] := List.length_eq_zero_iff.1 hst.symm
    subst ht
    rw [List.append_nil] at e1 e2
    subst e1 e2
    refine ⟨Ev.step (fun k => by rw [spec_VarianceOf.l0]) ?_, Ev.step (fun k => by rw [impl_VarianceOf.l0]) ?_⟩
    · simp only [if_neg (nlt_self a), List.zipWith_nil_left, List.append_nil]
      exact Ev.now _
    · simp only [if_neg (show ¬ (a.length : Int) < (b.length : Int) by omega), List.zipWith_nil_left, List.append_nil]
      exact Ev.now _
  | cons x s ih =>
    intro t p q acc e1 e2 hpq hst hac
    cases t with
    | nil => simp at hst
    | cons y t =>
      have h1 := mid_lt e1
      have h2 := mid_lt e2
      have hx : rd_T107 a (p.length : Int) = x := by unfold rd_T107; exact mid_get e1 _
      have hy : rd_T107 b (p.length : Int) = y := by unfold rd_T107; rw [hpq]; exact mid_get e2 _
      obtain ⟨g1, g2⟩ := ih t (p ++ [x]) (q ++ [y]) (acc ++ [varF x y]) (by simp [e1]) (by simp [e2]) (by simp [hpq]) (by simpa using hst) (by simp [hac])
      rw [List.append_assoc] at g1 g2
      refine ⟨Ev.step (fun k => by rw [spec_VarianceOf.l0]) ?_, Ev.step (fun k => by rw [impl_VarianceOf.l0]) ?_⟩
      · simp only [if_pos h1, if_pos (nat_nn p.length), if_pos (show (p.length : Int) < (b.length : Int) by omega), if_pos (show acc.length < 17592186044416 by omega), mid_next e1 (by omega), hx, hy]
        exact g1
      · simp only [if_pos h1, if_pos (nat_nn p.length), if_pos (show (p.length : Int) < (b.length : Int) by omega), if_pos (show acc.length < 17592186044416 by omega), mid_next e1 (by omega), hx, hy]
        exact g2
theorem variance_told (a b : List S107) (ha : a.length ≤ 1048576) (hb : b.length ≤ 1048576) : ∃ r : List Int × Int, Ev (fun k => spec_VarianceOf.f k a b) r ∧ Ev (fun k => impl_VarianceOf.f k a b) r ∧ r.1.length ≤ 1048576 ∧ (r.2 = 0 → billB a = true ∧ billB b = true ∧ a.length = b.length ∧ r.1 = List.zipWith varF a b) := by
  simp only [spec_VarianceOf.f, impl_VarianceOf.f]
  have b1 : Ev (fun k => spec_VarianceOf.j0 k a b true) ([], 1) := Ev.step (fun k => by rw [spec_VarianceOf.j0, if_pos rfl]) (Ev.now _)
  have b2 : Ev (fun k => impl_VarianceOf.j0 k a b true) ([], 1) := Ev.step (fun k => by rw [impl_VarianceOf.j0, if_pos rfl]) (Ev.now _)
  have s1 : Ev (fun k => spec_IsBill.f k a) (billB a) := spec_IsBill a ha
  have i1 : Ev (fun k => impl_IsBill.f k a) (billB a) := impl_IsBill a ha
  have s2 : Ev (fun k => spec_IsBill.f k b) (billB b) := spec_IsBill b hb
  have i2 : Ev (fun k => impl_IsBill.f k b) (billB b) := impl_IsBill b hb
  cases h1 : billB a <;> rw [h1] at s1 i1
  · exact ⟨([], 1), Ev.bind s1 (by simp only [Bool.false_eq_true, if_false]; exact b1), Ev.bind i1 (by simp only [Bool.false_eq_true, if_false]; exact b2), by simp, fun h => by simp at h⟩
  cases h2 : billB b <;> rw [h2] at s2 i2
  · exact ⟨([], 1), Ev.bind s1 (by simp only [if_true]; exact Ev.bind s2 b1), Ev.bind i1 (by simp only [if_true]; exact Ev.bind i2 b2), by simp, fun h => by simp at h⟩
  by_cases hl : a.length = b.length
  · obtain ⟨g1, g2⟩ := var_loop ha hb a b [] [] [] rfl rfl rfl hl rfl
    refine ⟨(List.zipWith varF a b, 0), Ev.bind s1 ?_, Ev.bind i1 ?_, by simp; omega, fun _ => ⟨rfl, rfl, hl, rfl⟩⟩ <;> simp only [if_true]
    · refine Ev.bind s2 (Ev.step (fun k => by rw [spec_VarianceOf.j0]) ?_)
      simp only [Bool.not_true, Bool.false_eq_true, if_false, if_pos (show (a.length : Int) = (b.length : Int) by omega)]
      exact g1
    · refine Ev.bind i2 (Ev.step (fun k => by rw [impl_VarianceOf.j0]) ?_)
      simp only [Bool.not_true, Bool.false_eq_true, if_false, if_pos (show (a.length : Int) = (b.length : Int) by omega)]
      exact g2
  · refine ⟨([], 5), Ev.bind s1 ?_, Ev.bind i1 ?_, by simp, fun h => by simp at h⟩ <;> simp only [if_true]
    · refine Ev.bind s2 (Ev.step (fun k => by rw [spec_VarianceOf.j0]) ?_)
      simp only [Bool.not_true, Bool.false_eq_true, if_false, if_neg (show ¬ (a.length : Int) = (b.length : Int) by omega)]
      exact Ev.now _
    · refine Ev.bind i2 (Ev.step (fun k => by rw [impl_VarianceOf.j0]) ?_)
      simp only [Bool.not_true, Bool.false_eq_true, if_false, if_neg (show ¬ (a.length : Int) = (b.length : Int) by omega)]
      exact Ev.now _
theorem var_fold : ∀ (a b : List S107) (acc : Int), a.length = b.length → (∀ x ∈ a, okLine x = true) → (∀ x ∈ b, okLine x = true) → -1000000000000000000 ≤ acc - 1000000000000 * a.length → acc + 1000000000000 * a.length ≤ 1000000000000000000 → (List.zipWith varF a b).foldl (fun s x => wrap64 (s + x)) acc = acc + exS b - exS a := by
  intro a
  induction a with
  | nil =>
    intro b acc hl _ _ _ _
    have : b = [] := List.length_eq_zero_iff.1 hl.symm
    subst this
    simp [exS]
  | cons x a ih =>
    intro b acc hl ha hb h1 h2
    cases b with
    | nil => simp at hl
    | cons y b =>
      have hx := ok_mul (ha x (by simp))
      have hy := ok_mul (hb y (by simp))
      simp only [List.length_cons] at h1 h2
      have e : varF x y = y.f0 * y.f1 - x.f0 * x.f1 := by
        unfold varF
        rw [w64 (x := y.f0 * y.f1) (by omega) (by omega), w64 (x := x.f0 * x.f1) (by omega) (by omega), w64 (by omega) (by omega)]
      simp only [List.zipWith_cons_cons, List.foldl_cons, e, exS]
      rw [w64 (by omega) (by omega), ih b _ (by simpa using hl) (fun z hz => ha z (by simp [hz])) (fun z hz => hb z (by simp [hz])) (by omega) (by omega)]
      omega
theorem laws_sum_ok (l : List Int) (h : l.length ≤ 1048576) : Ev (fun k => laws_sum.f k l) (l.foldl (fun s x => wrap64 (s + x)) 0) := by
  simp only [laws_sum.f]
  refine loop_list l (fun p s => ∀ acc, Ev (fun k => laws_sum.l0 k l acc (p.length : Int)) (s.foldl (fun s x => wrap64 (s + x)) acc)) ?_ ?_ 0
  · intro acc
    refine Ev.step (fun k => by rw [laws_sum.l0]) ?_
    simp only [if_neg (nlt_self l), List.foldl_nil]
    exact Ev.now _
  · intro p x s he ih acc
    have hx : rd l (p.length : Int) = x := by unfold rd; exact mid_get he _
    refine Ev.step (fun k => by rw [laws_sum.l0]) ?_
    simp only [if_pos (mid_lt he), if_pos (nat_nn p.length), hx, mid_next he (by omega), List.foldl_cons]
    exact ih _
/-! #### Percentages -/
def withB (a p : Int) : Int := wrap64 (a + quo (wrap64 (a * p)) 100)
theorem l23With (a p : Int) : spec_l23With.f a p = some (withB a p) := by
  simp only [spec_l23With.f, l01Ceil _ 100 (by decide), Option.bind_some]
  rfl
theorem withPercent (a p : Int) : impl_withPercent.f a p = some (withB a p) := by
  simp only [impl_withPercent.f, quotient _ 100 (by decide), Option.bind_some]
  rfl
theorem withB_ge {s a : Int} (h0 : 0 ≤ s) (h1 : s ≤ 1000000000000000) (a0 : 0 ≤ a) (a1 : a ≤ 1000) : s * a ≤ 1000 * s ∧ 0 ≤ s * a ∧ s ≤ withB s a ∧ withB s a ≤ 11 * s + 1 ∧ s * a ≤ 100 * (withB s a - s) ∧ 100 * (withB s a - s) < s * a + 100 := by
  have m0 : 0 ≤ s * a := Int.mul_nonneg h0 a0
  have m1 : s * a ≤ s * 1000 := Int.mul_le_mul_of_nonneg_left a1 h0
  have e : withB s a = s + (s * a + 99) / 100 := by
    unfold withB quo
    rw [w64 (x := s * a) (by omega) (by omega), w64 (x := s * a + 100) (by omega) (by omega), w64 (x := s * a + 100 - 1) (by omega) (by omega), Int.tdiv_eq_ediv_of_nonneg (by omega), show s * a + 100 - 1 = s * a + 99 by omega, w64 (x := (s * a + 99) / 100) (by omega) (by omega), w64 (by omega) (by omega)]
  rw [e]
  omega
theorem quote_told (l : List S107) (a b : Int) (h : l.length ≤ 1048576) : ∃ r : Int × Int, Ev (fun k => spec_QuoteOf.f k l a b) r ∧ Ev (fun k => impl_QuoteOf.f k l a b) r ∧ (r.2 = 0 → billB l = true ∧ sumB l ≤ r.1) := by
  have h1 := spec_sum l h
  have h2 := impl_sum l h
  have s1 : Ev (fun k => spec_IsBill.f k l) (billB l) := spec_IsBill l h
  have s2 : Ev (fun k => impl_IsBill.f k l) (billB l) := impl_IsBill l h
  simp only [spec_QuoteOf.f, impl_QuoteOf.f, l01In, impl_isPercentage.f, inRange, Option.bind_some]
  cases hb : billB l <;> rw [hb] at s1 s2
  · refine ⟨(0, 1), Ev.bind s1 ?_, Ev.bind s2 ?_, fun h => by simp at h⟩ <;> simp only [Bool.false_eq_true, if_false] <;> exact Ev.now _
  · cases ha : inR a 0 1000
    · refine ⟨(0, 2), Ev.bind s1 ?_, Ev.bind s2 ?_, fun h => by simp at h⟩ <;> simp only [Bool.false_eq_true, if_false, if_true]
      · exact Ev.step (fun k => by rw [spec_QuoteOf.j0, if_pos rfl]) (Ev.now _)
      · exact Ev.step (fun k => by rw [impl_QuoteOf.j0, if_pos rfl]) (Ev.now _)
    · cases hb2 : inR b 0 1000
      · refine ⟨(0, 2), Ev.bind s1 ?_, Ev.bind s2 ?_, fun h => by simp at h⟩ <;> simp only [if_true, Bool.not_false]
        · exact Ev.step (fun k => by rw [spec_QuoteOf.j0, if_pos rfl]) (Ev.now _)
        · exact Ev.step (fun k => by rw [impl_QuoteOf.j0, if_pos rfl]) (Ev.now _)
      · refine ⟨(withB (withB (sumB l) a) b, 0), Ev.bind s1 ?_, Ev.bind s2 ?_, fun _ => ⟨rfl, ?_⟩⟩
        · simp only [if_true, Bool.not_true]
          refine Ev.step (fun k => by rw [spec_QuoteOf.j0]) ?_
          simp only [Bool.false_eq_true, if_false, l23With, Option.bind_some]
          exact Ev.bind h1 (Ev.now _)
        · simp only [if_true, Bool.not_true]
          refine Ev.step (fun k => by rw [impl_QuoteOf.j0]) ?_
          simp only [Bool.false_eq_true, if_false, withPercent, Option.bind_some]
          exact Ev.bind h2 (Ev.now _)
        · obtain ⟨e1, e2, e3⟩ := sumB_ex hb
          have ia := inR_iff.1 ha
          have ib := inR_iff.1 hb2
          have w1 := withB_ge (s := sumB l) (a := a) (by omega) (by omega) ia.1 ia.2
          have w2 := withB_ge (s := withB (sumB l) a) (a := b) (by omega) (by omega) ib.1 ib.2
          simp only
          omega
theorem percent_told (a p : Int) : ∃ r : Int × Int, spec_WithPercent.f a p = some r ∧ impl_WithPercent.f a p = some r ∧ (r.2 = 0 → (0 ≤ a ∧ a ≤ 1000000000000) ∧ (0 ≤ p ∧ p ≤ 1000) ∧ r.1 = withB a p) := by
  simp only [spec_WithPercent.f, impl_WithPercent.f, impl_isAmount.f, impl_isPercentage.f, l23With, withPercent, l01In, inRange, Option.bind_some]
  cases h0 : inR a 0 1000000000000
  · exact ⟨(0, 2), by simp, by simp, fun h => by simp at h⟩
  · cases h1 : inR p 0 1000
    · exact ⟨(0, 2), by simp, by simp, fun h => by simp at h⟩
    · exact ⟨(withB a p, 0), by simp, by simp, fun _ => ⟨inR_iff.1 h0, inR_iff.1 h1, rfl⟩⟩
theorem likeLines (l : List S107) (h : l.length ≤ 1048576) : Ev (fun k => laws_likeLines9.f k l l) true := by
  simp only [laws_likeLines9.f, if_true]
  refine loop_list l (fun p s => Ev (fun k => laws_likeLines9.l0 k l l (p.length : Int)) true) ?_ ?_
  · refine Ev.step (fun k => by rw [laws_likeLines9.l0]) ?_
    simp only [if_neg (nlt_self l)]
    exact Ev.now _
  · intro p x s he ih
    refine Ev.step (fun k => by rw [laws_likeLines9.l0]) ?_
    simp only [if_pos (mid_lt he), if_pos (nat_nn p.length), beq_self_eq_true, Bool.not_true, Bool.or_self, Bool.false_eq_true, if_false, mid_next he (by omega)]
    exact ih
theorem likeInts (l : List Int) (h : l.length ≤ 9000000000000000000) : Ev (fun k => laws_likeInts.f k l l) true := by
  simp only [laws_likeInts.f, if_true]
  refine loop_list l (fun p s => Ev (fun k => laws_likeInts.l0 k l l (p.length : Int)) true) ?_ ?_
  · refine Ev.step (fun k => by rw [laws_likeInts.l0]) ?_
    simp only [if_neg (nlt_self l)]
    exact Ev.now _
  · intro p x s he ih
    refine Ev.step (fun k => by rw [laws_likeInts.l0]) ?_
    simp only [if_pos (mid_lt he), if_pos (nat_nn p.length), if_true, mid_next he (by omega)]
    exact ih
/-- A source that stands somewhere in its code. -/
def Src (c : List Int) (a s : Int) : Prop := (∀ x ∈ c, 0 ≤ x ∧ x ≤ 255) ∧ c.length ≤ 4096 ∧ 0 ≤ a ∧ a ≤ (c.length : Int) ∧ 0 ≤ s ∧ s < 2147483647
theorem rd_byte {c : List Int} (h : ∀ x ∈ c, 0 ≤ x ∧ x ≤ 255) (i : Int) : 0 ≤ rd c i ∧ rd c i ≤ 255 := by
  unfold rd
  rw [List.getD_eq_getElem?_getD]
  cases e : c[i.toNat]? with
  | none => simp
  | some v => exact h v (List.mem_of_getElem? e)
theorem tmod_range {x n : Int} (hx : 0 ≤ x) (hn : 1 < n) : 0 ≤ Int.tmod x n ∧ Int.tmod x n < n := by
  rw [Int.tmod_eq_emod_of_nonneg hx]
  exact ⟨Int.emod_nonneg _ (by omega), Int.emod_lt_of_pos _ (by omega)⟩
theorem seed_step {s : Int} (h0 : 0 ≤ s) (h1 : s < 2147483647) : 0 ≤ Int.tmod (wrap64 ((wrap64 (s * 48271)) + 61)) 2147483647 ∧ Int.tmod (wrap64 ((wrap64 (s * 48271)) + 61)) 2147483647 < 2147483647 := by
  rw [w64 (x := s * 48271) (by omega) (by omega), w64 (by omega) (by omega)]
  exact tmod_range (by omega) (by omega)
theorem draw_next {c : List Int} {a s : Int} (h : Src c a s) (n : Int) : ∃ v a' s', spec_l01Next.f c a s n = some (v, a', s') ∧ Src c a' s' ∧ (n ≤ 1 → v = 0) ∧ (1 < n → 0 ≤ v ∧ v < n) := by
  obtain ⟨hb, hl, ha, ha1, hs, hs1⟩ := h
  by_cases hn : n ≤ 1
  · exact ⟨0, a, s, by simp only [spec_l01Next.f, if_pos hn], ⟨hb, hl, ha, ha1, hs, hs1⟩, fun _ => rfl, fun h => by omega⟩
  · have hn0 : ¬ n = 0 := by omega
    obtain ⟨k0, k1⟩ := seed_step hs hs1
    generalize hk : Int.tmod (wrap64 ((wrap64 (s * 48271)) + 61)) 2147483647 = t at k0 k1
    have hx : Int.tdiv t 31 = t / 31 := Int.tdiv_eq_ediv_of_nonneg k0
    have hx1 : wrap64 (t / 31) = t / 31 := w64 (by omega) (by omega)
    by_cases hlt : a < (c.length : Int)
    · have e1 : wrap64 (a + 1) = a + 1 := w64 (by omega) (by omega)
      have e2 : wrap64 (a + 1 - 1) = a := by rw [show a + 1 - 1 = a by omega]; exact w64 (by omega) (by omega)
      obtain ⟨b0, b1⟩ := rd_byte hb a
      have e3 : wrap64 (rd c a) = rd c a := w64 (by omega) (by omega)
      have e4 : wrap64 (t / 31 + rd c a) = t / 31 + rd c a := w64 (by omega) (by omega)
      have hS : Src c (a + 1) t := ⟨hb, hl, by omega, by omega, k0, k1⟩
      by_cases h256 : n ≤ 256
      · by_cases he : Int.tmod (a + 1) 2 = 0
        · refine ⟨Int.tmod (rd c a) n, a + 1, t, ?_, hS, fun h => by omega, fun h => tmod_range b0 h⟩
          simp only [spec_l01Next.f, if_neg hn, if_pos hlt, if_pos ha, if_pos h256, e1, e2, e3, hk, if_pos he, if_neg hn0]
        · refine ⟨Int.tmod (t / 31 + rd c a) n, a + 1, t, ?_, hS, fun h => by omega, fun h => tmod_range (by omega) h⟩
          simp only [spec_l01Next.f, if_neg hn, if_pos hlt, if_pos ha, if_pos h256, e1, e2, e3, e4, hk, hx, hx1, if_neg he, if_neg hn0]
      · refine ⟨Int.tmod (t / 31 + rd c a) n, a + 1, t, ?_, hS, fun h => by omega, fun h => tmod_range (by omega) h⟩
        simp only [spec_l01Next.f, if_neg hn, if_pos hlt, if_pos ha, if_neg h256, e1, e3, e4, hk, hx, hx1, if_neg hn0]
    · refine ⟨Int.tmod (t / 31) n, a, t, ?_, ⟨hb, hl, ha, ha1, k0, k1⟩, fun h => by omega, fun h => tmod_range (by omega) h⟩
      simp only [spec_l01Next.f, if_neg hn, if_neg hlt, hk, hx, hx1, if_neg hn0]
theorem draw_pick {c : List Int} {a s : Int} (h : Src c a s) (l : List Int) (h0 : 0 < l.length) (h1 : l.length ≤ 1000) : ∃ v a' s', spec_l01Pick.f c a s l = some (v, a', s') ∧ Src c a' s' ∧ v ∈ l := by
  obtain ⟨v, a', s', e, hS, hv0, hv1⟩ := draw_next h (l.length : Int)
  have hv : 0 ≤ v ∧ v < (l.length : Int) := by
    by_cases hn : (l.length : Int) ≤ 1
    · have := hv0 hn; omega
    · exact hv1 (by omega)
  refine ⟨rd l v, a', s', by simp only [spec_l01Pick.f, e, Option.bind_some, if_pos hv.1, if_pos hv.2], hS, ?_⟩
  have : v.toNat < l.length := by omega
  unfold rd
  rw [List.getD_eq_getElem?_getD, List.getElem?_eq_getElem this]
  exact List.getElem_mem this
theorem draw_from (c : List Int) (hb : ∀ x ∈ c, (Lit.int .u8 x).wf = true) (hl : c.length ≤ 4096) : ∃ s, Ev (fun k => spec_l01From.f k c) (c, 0, s) ∧ Src c 0 s := by
  have hb' : ∀ x ∈ c, 0 ≤ x ∧ x ≤ 255 := by
    intro x hx
    have := hb x hx
    simp only [Lit.wf, IntKind.min, IntKind.max, IntKind.signed, IntKind.bits, Bool.and_eq_true, decide_eq_true_eq] at this
    simp at this
    omega
  have H := loop_list c (fun p t => ∀ s, 0 ≤ s → s < 2147483647 → ∃ s', Ev (fun k => spec_l01From.l0 k c (p.length : Int) c 0 s) (c, 0, s') ∧ 0 ≤ s' ∧ s' < 2147483647) ?_ ?_ 88007 (by omega) (by omega)
  · obtain ⟨s', h, h0, h1⟩ := H
    exact ⟨s', h, hb', hl, by omega, by omega, h0, h1⟩
  · intro s h0 h1
    refine ⟨s, Ev.step (fun k => by rw [spec_l01From.l0]) ?_, h0, h1⟩
    simp only [if_neg (nlt_self c)]
    exact Ev.now _
  · intro p x t he ih s h0 h1
    by_cases h64 : (p.length : Int) < 64
    · have hx : rd c (p.length : Int) = x := mid_get he 0
      obtain ⟨b0, b1⟩ := hb' x (by rw [he]; simp)
      have e : wrap64 (wrap64 (s * 71) + wrap64 x) = s * 71 + x := by rw [w64 (x := s * 71) (by omega) (by omega), w64 (x := x) (by omega) (by omega), w64 (by omega) (by omega)]
      obtain ⟨k0, k1⟩ := tmod_range (x := s * 71 + x) (n := 2147483647) (by omega) (by omega)
      obtain ⟨s', h, g0, g1⟩ := ih (Int.tmod (s * 71 + x) 2147483647) k0 k1
      refine ⟨s', Ev.step (fun k => by rw [spec_l01From.l0]) ?_, g0, g1⟩
      simp only [if_pos (mid_lt he), if_pos h64, if_pos (nat_nn p.length), hx, e, mid_next he (by omega)]
      exact h
    · refine ⟨s, Ev.step (fun k => by rw [spec_l01From.l0]) ?_, h0, h1⟩
      simp only [if_pos (mid_lt he), if_neg h64]
      exact Ev.now _
theorem draw_bill_l1 {c : List Int} (a s : Int) : ∀ (d : Nat) (l : List S107) (n : Int), n ≤ d → d ≤ 1000 → l.length ≤ 1000 → ∃ r, Ev (fun k => spec_l23Draw.l1 k l n c a s) (r, a, s) ∧ r.length ≤ l.length + d := by
  intro d
  induction d with
  | zero =>
    intro l n hn _ hl
    refine ⟨l, Ev.step (fun k => by rw [spec_l23Draw.l1]) ?_, by omega⟩
    simp only [if_neg (show ¬ n > 0 by omega)]
    exact Ev.now _
  | succ d ih =>
    intro l n hn hd hl
    by_cases hp : n > 0
    · by_cases hl2 : l.length < 1000
      · obtain ⟨r, hr, hrl⟩ := ih (l ++ [⟨1, n⟩]) (wrap64 (n - 1)) (by rw [w64 (by omega) (by omega)]; omega) (by omega) (by simp; omega)
        refine ⟨r, Ev.step (fun k => by rw [spec_l23Draw.l1]) ?_, by simp at hrl; omega⟩
        simp only [if_pos hp, if_pos (show l.length < 8796093022208 by omega)]
        exact hr
      · have H : ∀ (d : Nat) (l : List S107) (n : Int), n ≤ d → d ≤ 1000 → l.length ≤ 3000 - d → ∃ r, Ev (fun k => spec_l23Draw.l1 k l n c a s) (r, a, s) ∧ r.length ≤ l.length + d := by
          intro d
          induction d with
          | zero =>
            intro l n hn _ hl
            refine ⟨l, Ev.step (fun k => by rw [spec_l23Draw.l1]) ?_, by omega⟩
            simp only [if_neg (show ¬ n > 0 by omega)]
            exact Ev.now _
          | succ d ih2 =>
            intro l n hn hd hl
            by_cases hp : n > 0
            · obtain ⟨r, hr, hrl⟩ := ih2 (l ++ [⟨1, n⟩]) (wrap64 (n - 1)) (by rw [w64 (by omega) (by omega)]; omega) (by omega) (by simp; omega)
              refine ⟨r, Ev.step (fun k => by rw [spec_l23Draw.l1]) ?_, by simp at hrl; omega⟩
              simp only [if_pos hp, if_pos (show l.length < 8796093022208 by omega)]
              exact hr
            · refine ⟨l, Ev.step (fun k => by rw [spec_l23Draw.l1]) ?_, by omega⟩
              simp only [if_neg hp]
              exact Ev.now _
        exact H (d + 1) l n hn hd (by omega)
    · refine ⟨l, Ev.step (fun k => by rw [spec_l23Draw.l1]) ?_, by omega⟩
      simp only [if_neg hp]
      exact Ev.now _
theorem draw_bill_l0 {c : List Int} : ∀ (d : Nat) (l : List S107) (n a s : Int), n ≤ d → l.length + d ≤ 6 → Src c a s → ∃ r a' s', Ev (fun k => spec_l23Draw.l0 k l n c a s) (r, a', s') ∧ Src c a' s' ∧ r.length ≤ 60 := by
  intro d
  induction d with
  | zero =>
    intro l n a s hn hl h
    obtain ⟨v1, a1, s1, e1, h1, _⟩ := draw_next h 40
    by_cases g0 : v1 = 0
    · obtain ⟨v2, a2, s2, e2, h2, _⟩ := draw_pick h1 [-1, 1000000, 1000001] (by decide) (by decide)
      obtain ⟨v3, a3, s3, e3, h3, _⟩ := draw_pick h2 [0, 1000000, 1000001, 25] (by decide) (by decide)
      refine ⟨l ++ [⟨v2, v3⟩], a3, s3, Ev.step (fun k => by rw [spec_l23Draw.l0]) ?_, h3, by simp; omega⟩
      simp only [if_neg (show ¬ n > 0 by omega), e1, Option.bind_some, if_pos g0, e2, e3, if_pos (show l.length < 8796093022208 by omega)]
      exact Ev.now _
    · by_cases g1 : v1 = 1
      · obtain ⟨v2, a2, s2, e2, h2, _, m2⟩ := draw_next h1 2
        have := m2 (by omega)
        obtain ⟨r, hr, hrl⟩ := draw_bill_l1 (c := c) a2 s2 50 [] (wrap64 (40 + v2)) (by rw [w64 (by omega) (by omega)]; omega) (by omega) (by simp)
        refine ⟨r, a2, s2, Ev.step (fun k => by rw [spec_l23Draw.l0]) ?_, h2, by simp at hrl; omega⟩
        simp only [if_neg (show ¬ n > 0 by omega), e1, Option.bind_some, if_neg g0, if_pos g1, e2]
        exact hr
      · refine ⟨l, a1, s1, Ev.step (fun k => by rw [spec_l23Draw.l0]) ?_, h1, by omega⟩
        simp only [if_neg (show ¬ n > 0 by omega), e1, Option.bind_some, if_neg g0, if_neg g1]
        exact Ev.now _
  | succ d ih =>
    intro l n a s hn hl h
    by_cases hp : n > 0
    · obtain ⟨v1, a1, s1, e1, h1, _⟩ := draw_next h 500
      obtain ⟨v2, a2, s2, e2, h2, _⟩ := draw_next h1 900
      obtain ⟨v3, a3, s3, e3, h3, _⟩ := draw_pick h2 [25, 40, v2] (by simp) (by simp)
      obtain ⟨r, a', s', hr, h', hl'⟩ := ih (l ++ [⟨v1, v3⟩]) (wrap64 (n - 1)) a3 s3 (by rw [w64 (by omega) (by omega)]; omega) (by simp; omega) h3
      refine ⟨r, a', s', Ev.step (fun k => by rw [spec_l23Draw.l0]) ?_, h', hl'⟩
      simp only [if_pos hp, e1, e2, e3, Option.bind_some, if_pos (show l.length < 8796093022208 by omega)]
      exact hr
    · exact ih l n a s (by omega) (by omega) h
theorem draw_bill {c : List Int} {a s : Int} (h : Src c a s) : ∃ l a' s', Ev (fun k => spec_l23Draw.f k c a s) (l, a', s') ∧ Src c a' s' ∧ l.length ≤ 60 := by
  obtain ⟨v1, a1, s1, e1, h1, m0, m1⟩ := draw_next h 6
  have := m1 (by omega)
  obtain ⟨l, a', s', hr, h', hl⟩ := draw_bill_l0 (c := c) 6 [] v1 a1 s1 (by omega) (by simp) h1
  refine ⟨l, a', s', ?_, h', hl⟩
  simp only [spec_l23Draw.f, e1, Option.bind_some]
  exact hr
theorem draw_mergebills (c : List Int) (hb : ∀ x ∈ c, (Lit.int .u8 x).wf = true) (hl : c.length ≤ 4096) : ∃ a b, Ev (fun k => spec_DrawMergeBills.f k c) (a, b) ∧ a.length ≤ 60 ∧ b.length ≤ 60 := by
  obtain ⟨s0, h0, hs0⟩ := draw_from c hb hl
  obtain ⟨a, a1, s1, h1, hs1, l1⟩ := draw_bill hs0
  obtain ⟨b, a2, s2, h2, hs2, l2⟩ := draw_bill hs1
  simp only [spec_DrawMergeBills.f]
  exact ⟨a, b, Ev.bind h0 (Ev.bind h1 (Ev.bind h2 (Ev.now _))), l1, l2⟩
theorem draw_variance (c : List Int) (hb : ∀ x ∈ c, (Lit.int .u8 x).wf = true) (hl : c.length ≤ 4096) : ∃ a b, Ev (fun k => spec_DrawVarianceOf.f k c) (a, b) ∧ a.length ≤ 60 ∧ b.length ≤ 60 := by
  obtain ⟨s0, h0, hs0⟩ := draw_from c hb hl
  obtain ⟨a, a1, s1, h1, hs1, l1⟩ := draw_bill hs0
  obtain ⟨v2, a2, s2, e2, hs2, _⟩ := draw_next hs1 6
  simp only [spec_DrawVarianceOf.f]
  by_cases g : v2 = 0
  · obtain ⟨b, a3, s3, h3, hs3, l3⟩ := draw_bill hs2
    refine ⟨a, b, Ev.bind h0 (Ev.bind h1 ?_), l1, l3⟩
    simp only [e2, Option.bind_some, if_pos g]
    exact Ev.bind h3 (Ev.now _)
  · have H : ∀ (d : Nat) (b : List S107) (i : Nat) (a3 s3 : Int), b.length - i ≤ d → b.length ≤ 60 → Src c a3 s3 → ∃ r, Ev (fun k => spec_DrawVarianceOf.l0 k a b (i : Int) c a3 s3) (a, r) ∧ r.length = b.length := by
      intro d
      induction d with
      | zero =>
        intro b i a3 s3 hd hbl _
        refine ⟨b, Ev.step (fun k => by rw [spec_DrawVarianceOf.l0]) ?_, rfl⟩
        simp only [if_neg (show ¬ (i : Int) < (b.length : Int) by omega)]
        exact Ev.now _
      | succ d ih =>
        intro b i a3 s3 hd hbl h3
        by_cases hi : (i : Int) < (b.length : Int)
        · obtain ⟨v4, a4, s4, e4, h4, _⟩ := draw_next h3 3
          obtain ⟨r, hr, hrl⟩ := ih (b.set (i : Int).toNat ⟨wrap64 ((rd_T107 b (i : Int)).f0 + v4), (rd_T107 b (i : Int)).f1⟩) (i + 1) a4 s4 (by simp; omega) (by simpa using hbl) h4
          refine ⟨r, Ev.step (fun k => by rw [spec_DrawVarianceOf.l0]) ?_, by simpa using hrl⟩
          have ew : wrap64 ((i : Int) + 1) = ((i + 1 : Nat) : Int) := by rw [w64 (by omega) (by omega)]; omega
          simp only [if_pos hi, if_pos (nat_nn i), e4, Option.bind_some, ew]
          exact hr
        · refine ⟨b, Ev.step (fun k => by rw [spec_DrawVarianceOf.l0]) ?_, rfl⟩
          simp only [if_neg hi]
          exact Ev.now _
    obtain ⟨r, hr, hrl⟩ := H a.length ([] ++ a) 0 a2 s2 (by simp) (by simpa using l1) hs2
    refine ⟨a, r, Ev.bind h0 (Ev.bind h1 ?_), l1, by simp at hrl; omega⟩
    simp only [e2, Option.bind_some, if_neg g, List.length_nil, if_pos (show 0 + a.length < 8796093022208 by omega)]
    exact hr
theorem draw_quote (c : List Int) (hb : ∀ x ∈ c, (Lit.int .u8 x).wf = true) (hl : c.length ≤ 4096) : ∃ l x y, Ev (fun k => spec_DrawQuoteOf.f k c) (l, x, y) ∧ l.length ≤ 60 := by
  obtain ⟨s0, h0, hs0⟩ := draw_from c hb hl
  obtain ⟨l, a1, s1, h1, hs1, l1⟩ := draw_bill hs0
  obtain ⟨v2, a2, s2, e2, hs2, _⟩ := draw_next hs1 60
  obtain ⟨v3, a3, s3, e3, hs3, _⟩ := draw_next hs2 30
  obtain ⟨v4, a4, s4, e4, hs4, _⟩ := draw_pick hs3 [-1, 1000, 1001] (by decide) (by decide)
  obtain ⟨v5, a5, s5, e5, hs5, _⟩ := draw_pick hs4 [v2, v3, v4] (by simp) (by simp)
  obtain ⟨v6, a6, s6, e6, hs6, _⟩ := draw_next hs5 40
  refine ⟨l, v5, v6, ?_, l1⟩
  simp only [spec_DrawQuoteOf.f]
  refine Ev.bind h0 (Ev.bind h1 ?_)
  simp only [e2, e3, e4, e5, e6, Option.bind_some]
  exact Ev.now _
theorem draw_percent (c : List Int) (hb : ∀ x ∈ c, (Lit.int .u8 x).wf = true) (hl : c.length ≤ 4096) : ∃ x y, Ev (fun k => spec_DrawWithPercent.f k c) (x, y) := by
  obtain ⟨s0, h0, hs0⟩ := draw_from c hb hl
  obtain ⟨v1, a1, s1, e1, hs1⟩ : ∃ v a' s', spec_l23DrawAmount.f c 0 s0 = some (v, a', s') ∧ Src c a' s' := by
    obtain ⟨v1, a1, s1, e1, hs1, _⟩ := draw_next hs0 24
    simp only [spec_l23DrawAmount.f, e1, Option.bind_some]
    by_cases g : v1 = 0
    · obtain ⟨v2, a2, s2, e2, hs2, _⟩ := draw_pick hs1 [-1, 0, 1000000000000, 1000000000001] (by decide) (by decide)
      exact ⟨v2, a2, s2, by simp only [if_pos g, e2, Option.bind_some], hs2⟩
    · obtain ⟨v2, a2, s2, e2, hs2, _⟩ := draw_pick hs1 [500, 100000, 3000000] (by decide) (by decide)
      obtain ⟨v3, a3, s3, e3, hs3, _⟩ := draw_next hs2 v2
      exact ⟨v3, a3, s3, by simp only [if_neg g, e2, e3, Option.bind_some], hs3⟩
  obtain ⟨v2, a2, s2, e2, hs2, _⟩ := draw_next hs1 100
  obtain ⟨v3, a3, s3, e3, hs3, _⟩ := draw_next hs2 30
  obtain ⟨v4, a4, s4, e4, hs4, _⟩ := draw_pick hs3 [-1, 0, 1000, 1001] (by decide) (by decide)
  obtain ⟨v5, a5, s5, e5, hs5, _⟩ := draw_pick hs4 [v2, v3, v4] (by simp) (by simp)
  refine ⟨v1, v5, ?_⟩
  simp only [spec_DrawWithPercent.f]
  refine Ev.bind h0 ?_
  simp only [e1, e2, e3, e4, e5, Option.bind_some]
  exact Ev.now _
theorem FnBills : laws_FnBills.Pure := by
  intro c hl hb
  refine Ev.rounds (g := fun k => laws_FnBills.f k c) ?_
  simp only [laws_FnBills.f, laws_big.f, Option.bind_some]
  by_cases hbig : (c.length : Int) > 4096
  · simp only [decide_eq_true hbig, if_true]
    exact Ev.now _
  simp only [decide_eq_false hbig, Bool.false_eq_true, if_false]
  obtain ⟨a, b, hd1, la, lb⟩ := draw_mergebills c hb (by omega)
  obtain ⟨p, q, hd2, lp, lq⟩ := draw_variance c hb (by omega)
  obtain ⟨bill, ov, mg, hd3, lbi⟩ := draw_quote c hb (by omega)
  obtain ⟨am, pc, hd4⟩ := draw_percent c hb (by omega)
  obtain ⟨m, ms, mi, me⟩ := both_merge a b (by omega) (by omega)
  obtain ⟨v, vs, vi, vl, ve⟩ := variance_told p q (by omega) (by omega)
  obtain ⟨n, ns, ni, ne⟩ := quote_told bill ov mg (by omega)
  obtain ⟨w, ws, wi, we⟩ := percent_told am pc
  obtain ⟨ss, si⟩ := sum_told a (by omega)
  have ia : Ev (fun k => impl_IsBill.f k a) (billB a) := impl_IsBill a (by omega)
  have ml : m.1.length ≤ 1048576 := by
    have := mergeF_length (a ++ b) []
    simp at this
    rw [me]
    repeat' split
    all_goals simp
    omega
  have h3 : Ev (fun k => laws_FnBills.j3 k b m.1 m.2 (sumT a).1 false) true := by
    refine Ev.step (fun k => by rw [laws_FnBills.j3]) ?_
    simp only [Bool.false_eq_true, if_false]
    by_cases hm : m.2 = 0
    · simp only [if_pos hm]
      obtain ⟨b1, b2, b3, e⟩ : billB a = true ∧ billB b = true ∧ billB (mergeF (a ++ b) []) = true ∧ m.1 = mergeF (a ++ b) [] := by
        rw [me] at hm ⊢
        cases h1 : billB a <;> cases h2 : billB b <;> cases h3 : billB (mergeF (a ++ b) []) <;> simp [h1, h2, h3] at hm ⊢
      refine Ev.bind (sum_told m.1 ml).2 ?_
      refine Ev.bind (sum_told b (by omega)).2 ?_
      obtain ⟨x1, x2, x3⟩ := sumB_ex b1
      obtain ⟨y1, y2, y3⟩ := sumB_ex b2
      obtain ⟨z1, z2, z3⟩ := sumB_ex b3
      have hs := merge_ex b1 b2
      have et : sumB m.1 = wrap64 (sumB a + sumB b) := by rw [e, w64 (by omega) (by omega)]; omega
      simp only [e, sumT, b1, b2, b3, if_true]
      rw [e] at et
      exact ev_eq (Ev.now _) (by rw [et]; simp)
    · simp only [if_neg hm]
      exact Ev.now _
  have h2 : Ev (fun k => laws_FnBills.j2 k b m.1 m.2 am pc w.1 w.2 (sumT a).1) true := by
    refine Ev.step (fun k => by rw [laws_FnBills.j2]) ?_
    by_cases hw : w.2 = 0
    · obtain ⟨⟨a0, a1⟩, ⟨p0, p1⟩, e⟩ := we hw
      obtain ⟨g1, g2, g3, g4, g5, g6⟩ := withB_ge (s := am) (a := pc) a0 (by omega) p0 p1
      rw [← e] at g3 g4 g5 g6
      have e1 : wrap64 (w.1 - am) = w.1 - am := w64 (by omega) (by omega)
      have e2 : wrap64 (100 * (w.1 - am)) = 100 * (w.1 - am) := w64 (by omega) (by omega)
      have e3 : wrap64 (am * pc) = am * pc := w64 (by omega) (by omega)
      have e4 : wrap64 (am * pc + 100) = am * pc + 100 := w64 (by omega) (by omega)
      simp only [if_pos hw, e1, e2, e3, e4, if_neg (show ¬ 100 * (w.1 - am) < am * pc by omega), decide_eq_false (show ¬ 100 * (w.1 - am) ≥ am * pc + 100 by omega)]
      exact h3
    · simp only [if_neg hw]
      exact h3
  have h1 : Ev (fun k => laws_FnBills.j1 k b m.1 m.2 bill n.1 n.2 am pc w.1 w.2 (sumT a).1) true := by
    refine Ev.step (fun k => by rw [laws_FnBills.j1]) ?_
    by_cases hn : n.2 = 0
    · obtain ⟨b1, hle⟩ := ne hn
      simp only [if_pos hn]
      refine Ev.bind (sum_told bill (by omega)).2 ?_
      simp only [sumT, b1, if_true, if_neg (show ¬ n.1 < sumB bill by omega)]
      exact h2
    · simp only [if_neg hn]
      exact h2
  refine Ev.bind hd1 ?_
  refine Ev.bind mi ?_
  refine Ev.bind ms ?_
  refine Ev.bind hd2 ?_
  refine Ev.bind vi ?_
  refine Ev.bind vs ?_
  refine Ev.bind hd3 ?_
  refine Ev.bind ni ?_
  refine Ev.bind ns ?_
  refine Ev.bind hd4 ?_
  simp only [wi, ws, Option.bind_some]
  refine Ev.bind si ?_
  refine Ev.bind ss ?_
  simp only [if_true]
  refine Ev.bind (likeLines m.1 ml) ?_
  simp only [if_true]
  refine Ev.bind (likeInts v.1 (by omega)) ?_
  simp only [if_true]
  refine Ev.bind ia ?_
  have eb : (billB a != ((sumT a).2 == 0)) = false := by
    unfold sumT
    cases billB a <;> simp
  simp only [eb]
  refine Ev.step (fun k => by rw [laws_FnBills.j0]) ?_
  simp only [Bool.false_eq_true, if_false]
  by_cases hv : v.2 = 0
  · obtain ⟨b1, b2, hlen, e⟩ := ve hv
    obtain ⟨x1, x2, x3⟩ := sumB_ex b1
    obtain ⟨y1, y2, y3⟩ := sumB_ex b2
    simp only [if_pos hv]
    refine Ev.bind (sum_told p (by omega)).2 ?_
    refine Ev.bind (sum_told q (by omega)).2 ?_
    simp only [sumT, b1, b2, if_true]
    refine Ev.bind (laws_sum_ok v.1 vl) ?_
    have hs := var_fold p q 0 hlen (billB_ok b1).1 (billB_ok b2).1 (by omega) (by omega)
    have et : v.1.foldl (fun s x => wrap64 (s + x)) 0 = wrap64 (sumB q - sumB p) := by
      rw [e, hs, w64 (by omega) (by omega)]
      omega
    simp only [et, if_true]
    exact h1
  · simp only [if_neg hv]
    exact h1

end Go.Proofs.Ytefnoiajfjbbpaa.Pure
