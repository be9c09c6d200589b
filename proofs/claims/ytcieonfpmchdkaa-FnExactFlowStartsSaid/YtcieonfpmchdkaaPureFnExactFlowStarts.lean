/- The pure statement of law FnExactFlowStarts: what the printed functions compute answers true at every input. No condition. -/
import Derived.Test.YtcieonfpmchdkaaPFnExactFlowStartsx5
set_option linter.unusedVariables false
set_option linter.unusedSimpArgs false
namespace Go.Proofs.Ytcieonfpmchdkaa.Pure
open Go.RowKit Go.Proofs.Ytcieonfpmchdkaa.PFnExactFlowStarts Go.Proofs.YtcieonfpmchdkaaW.PrintWords Go.Proofs.YtcieonfpmchdkaaW.PrintLast Go.Proofs.YtcieonfpmchdkaaW.PrintMore


/-! #### Numbers and rounds -/
theorem w64 {x : Int} (h1 : -9223372036854775808 ≤ x) (h2 : x ≤ 9223372036854775807) : wrap64 x = x := by
  unfold wrap64
  omega
theorem wf64 {x : Int} (h : (Lit.int .i64 x).wf = true) : -9223372036854775808 ≤ x ∧ x ≤ 9223372036854775807 := by
  simp only [Lit.wf, IntKind.min, IntKind.max, IntKind.signed, IntKind.bits, Bool.and_eq_true, decide_eq_true_eq, if_true] at h
  omega
theorem ev_of {α : Type} {g : Nat → Option α} {r : α} (h : ∀ k, g k = some r) : Ev g r := ⟨0, fun k _ => h k⟩
theorem ev_eq {α : Type} {g : Nat → Option α} {r r' : α} (h : Ev g r) (e : r = r') : Ev g r' := e ▸ h
/-- A loop over a list: what lies behind, what lies ahead. -/
theorem loop_list {α : Type} (l : List α) (Q : List α → List α → Prop) (h0 : Q l []) (hs : ∀ p x s, l = p ++ x :: s → Q (p ++ [x]) s → Q p (x :: s)) : Q [] l := by
  have h : ∀ s p, l = p ++ s → Q p s := by
    intro s
    induction s with
    | nil => intro p hp; rw [List.append_nil] at hp; rw [← hp]; exact h0
    | cons x s ih => intro p hp; exact hs p x s hp (ih (p ++ [x]) (by simp [hp]))
  exact h l [] rfl
theorem mid_lt {α : Type} {l p s : List α} {x : α} (h : l = p ++ x :: s) : (p.length : Int) < (l.length : Int) := by
  rw [h, List.length_append, List.length_cons]; omega
theorem mid_next {α : Type} {l p s : List α} {x : α} (h : l = p ++ x :: s) (hl : l.length ≤ 9223372036854775807) : wrap64 ((p.length : Int) + 1) = ((p ++ [x]).length : Int) := by
  have := mid_lt h
  rw [w64 (by omega) (by omega), List.length_append]; simp
theorem mid_get {α : Type} {l p s : List α} {x : α} (h : l = p ++ x :: s) (z : α) : l.getD (p.length : Int).toNat z = x := by
  rw [h]; simp
theorem get_mid {α : Type} (p s : List α) (x z : α) : (p ++ x :: s).getD (p.length : Int).toNat z = x := by simp
theorem nat_nn (n : Nat) : (0 : Int) ≤ (n : Int) := by omega
theorem nlt_self {α : Type} (l : List α) : ¬ ((l.length : Int) < (l.length : Int)) := by omega
theorem set_mid {α : Type} (p s : List α) (x y : α) : (p ++ x :: s).set ((p.length : Int).toNat) y = p ++ y :: s := by
  rw [Int.toNat_natCast, List.set_append_right _ _ (Nat.le_refl _)]; simp
theorem nil_or_snoc {α : Type} (p : List α) : p = [] ∨ ∃ q y, p = q ++ [y] := by
  rcases List.eq_nil_or_concat p with h | ⟨q, y, h⟩
  · exact .inl h
  · exact .inr ⟨q, y, by rw [h, List.concat_eq_append]⟩
theorem loop_all {α : Type} (l : List α) (Q : List α → List α → Prop) (h0 : Q l []) (hs : ∀ p x s, l = p ++ x :: s → Q (p ++ [x]) s → Q p (x :: s)) : ∀ s p, l = p ++ s → Q p s := by
  intro s
  induction s with
  | nil => intro p hp; rw [List.append_nil] at hp; rw [← hp]; exact h0
  | cons x s ih => intro p hp; exact hs p x s hp (ih (p ++ [x]) (by simp [hp]))
theorem szFlowJob (l : List S61) (a : Int) (ha : 0 ≤ a) (hb : a ≤ 1048576) (h : l.length ≤ 9000000000000000000) : laws_szFlowJobS.f l a = some (if a - l.length < 0 then (-1 : Int) else a - l.length) := by
  unfold laws_szFlowJobS.f
  rw [w64 (by omega) (by omega)]
  split <;> rfl
def cvFlowJob (x : S61) : S59 := ⟨x.f0, x.f1⟩
theorem toFlowJobS (l : List S61) (h : l.length ≤ 1048576) : Ev (fun k => laws_toFlowJobS.f k l) (l.map cvFlowJob) := by
  have H := loop_list l (fun p s => ∀ (a t : List S59), a.length = p.length → t.length = s.length → Ev (fun k => laws_toFlowJobS.l0 k l (a ++ t) (p.length : Int)) (a ++ s.map cvFlowJob)) ?_ ?_
  · have := H [] (List.replicate l.length z59) rfl (by simp)
    simp only [laws_toFlowJobS.f, Int.toNat_natCast, if_pos (nat_nn l.length)]
    rw [show (fun k => if l.length ≤ _ then _ else _) = (fun k => laws_toFlowJobS.l0 k l (List.replicate l.length z59) 0) from funext fun k => if_pos (by omega)]
    simpa using this
  · intro a t ha ht
    refine Ev.step (fun k => by rw [laws_toFlowJobS.l0]) ?_
    simp only [if_neg (nlt_self l)]
    have : t = [] := List.eq_nil_of_length_eq_zero (by simpa using ht)
    subst this
    exact Ev.now _
  · intro p x s he ih a t ha ht
    obtain ⟨y, t, rfl⟩ : ∃ y t', t = y :: t' := by cases t with | nil => simp at ht | cons y t => exact ⟨y, t, rfl⟩
    refine Ev.step (fun k => by rw [laws_toFlowJobS.l0]) ?_
    have e : ((p.length : Int) < ((a ++ y :: t).length : Int)) := by simp; omega
    have e2 := set_mid a t y (cvFlowJob x)
    rw [ha] at e2
    simp only [if_pos (mid_lt he), if_pos (nat_nn p.length), laws_toFlowJob.f, Option.bind_some, if_pos e, mid_next he (by omega), rd_T61, mid_get he]
    have := ih (a ++ [cvFlowJob x]) t (by simp [ha]) (by simpa using ht)
    simp only [cvFlowJob, List.append_assoc, List.singleton_append, List.map_cons] at this e2 ⊢
    rw [e2]
    exact this
theorem eqFlowJobS (l : List S59) (h : l.length ≤ 9000000000000000000) : Ev (fun k => laws_eqFlowJobS.f k l l) true := by
  simp only [laws_eqFlowJobS.f, if_true]
  refine loop_list l (fun p s => Ev (fun k => laws_eqFlowJobS.l0 k l l (p.length : Int)) true) ?_ ?_
  · refine Ev.step (fun k => by rw [laws_eqFlowJobS.l0]) ?_
    simp only [if_neg (nlt_self l)]
    exact Ev.now _
  · intro p x s he ih
    refine Ev.step (fun k => by rw [laws_eqFlowJobS.l0]) ?_
    simp only [if_pos (mid_lt he), if_pos (nat_nn p.length), laws_eqFlowJob.f, if_true, Option.bind_some, mid_next he (by omega)]
    exact ih
/-- Structs that hold the numbers from m on. -/
def numsFlowJob (m : Int) : Nat → List S59
  | 0 => []
  | n + 1 => ⟨m, m + 1⟩ :: numsFlowJob (m + 2) n
theorem numsFlowJob_length (n : Nat) : ∀ m, (numsFlowJob m n).length = n := by
  induction n with
  | zero => intro m; rfl
  | succ n ih => intro m; simp [numsFlowJob, ih]
theorem markFlowJobS (l : List S59) (m : Int) (hm : 0 ≤ m) (hb : m ≤ 1000000000000) (h : l.length ≤ 9000000000000) : Ev (fun k => laws_markFlowJobS.f k l m) (m + 2 * (l.length : Int), numsFlowJob m l.length) := by
  have H : ∀ (t a : List S59) (m : Int), 0 ≤ m → m + 2 * (t.length : Int) ≤ 1000000000000000 → a.length + t.length ≤ 9000000000000 → Ev (fun k => laws_markFlowJobS.l0 k (a ++ t) m (a.length : Int)) (m + 2 * (t.length : Int), a ++ numsFlowJob m t.length) := by
    intro t
    induction t with
    | nil =>
      intro a m hm hb ha
      refine Ev.step (fun k => by rw [laws_markFlowJobS.l0]) ?_
      simp only [List.append_nil, if_neg (nlt_self a), List.length_nil, numsFlowJob]
      exact ev_eq (Ev.now _) (by simp)
    | cons x t ih =>
      intro a m hm hb ha
      simp only [List.length_cons] at hb ha
      refine Ev.step (fun k => by rw [laws_markFlowJobS.l0]) ?_
      have e : ((a.length : Int) < ((a ++ x :: t).length : Int)) := by simp; omega
      simp only [if_pos e, if_pos (nat_nn a.length), set_mid, Option.bind_some, rd_T59, get_mid, w64 (x := m + 1) (by omega) (by omega), w64 (x := m + 2) (by omega) (by omega), (show m + 1 + 1 = m + 2 from by omega), w64 (x := (a.length : Int) + 1) (by omega) (by omega)]
      have := ih (a ++ [⟨m, m + 1⟩]) (m + 2) (by omega) (by omega) (by simp; omega)
      simp only [List.append_assoc, List.singleton_append, List.length_append, List.length_singleton] at this
      rw [show ((a.length + 1 : Nat) : Int) = (a.length : Int) + 1 by omega] at this
      refine ev_eq this ?_
      simp only [List.length_cons, numsFlowJob, Prod.mk.injEq, and_true]
      omega
  have := H l [] m hm (by omega) (by simpa using h)
  simpa [laws_markFlowJobS.f] using this
theorem toInt64S (l : List Int) (h : l.length ≤ 1048576) : Ev (fun k => laws_toInt64S.f k l) l := by
  have H := loop_list l (fun p s => ∀ (a t : List Int), a.length = p.length → t.length = s.length → Ev (fun k => laws_toInt64S.l0 k l (a ++ t) (p.length : Int)) (a ++ s)) ?_ ?_
  · have := H [] (List.replicate l.length 0) rfl (by simp)
    simp only [laws_toInt64S.f, Int.toNat_natCast, if_pos (nat_nn l.length), if_pos (show l.length ≤ 35184372088832 by omega)]
    simpa using this
  · intro a t ha ht
    refine Ev.step (fun k => by rw [laws_toInt64S.l0]) ?_
    simp only [if_neg (nlt_self l)]
    have : t = [] := List.eq_nil_of_length_eq_zero (by simpa using ht)
    subst this
    exact Ev.now _
  · intro p x s he ih a t ha ht
    obtain ⟨y, t, rfl⟩ : ∃ y t', t = y :: t' := by cases t with | nil => simp at ht | cons y t => exact ⟨y, t, rfl⟩
    refine Ev.step (fun k => by rw [laws_toInt64S.l0]) ?_
    have e : ((p.length : Int) < ((a ++ y :: t).length : Int)) := by simp; omega
    have e2 := set_mid a t y x
    rw [ha] at e2
    have hx : rd l (p.length : Int) = x := mid_get he 0
    simp only [if_pos (mid_lt he), if_pos (nat_nn p.length), if_pos e, mid_next he (by omega), hx]
    have := ih (a ++ [x]) t (by simp [ha]) (by simpa using ht)
    simp only [List.append_assoc, List.singleton_append] at this e2 ⊢
    rw [e2]
    exact this
theorem eqInt64S (l : List Int) (h : l.length ≤ 9000000000000000000) : Ev (fun k => laws_eqInt64S.f k l l) true := by
  simp only [laws_eqInt64S.f, if_true]
  refine loop_list l (fun p s => Ev (fun k => laws_eqInt64S.l0 k l l (p.length : Int)) true) ?_ ?_
  · refine Ev.step (fun k => by rw [laws_eqInt64S.l0]) ?_
    simp only [if_neg (nlt_self l)]
    exact Ev.now _
  · intro p x s he ih
    refine Ev.step (fun k => by rw [laws_eqInt64S.l0]) ?_
    simp only [if_pos (mid_lt he), if_pos (nat_nn p.length), if_true, mid_next he (by omega)]
    exact ih
/-- The numbers from m on. -/
def numsI (m : Int) : Nat → List Int
  | 0 => []
  | n + 1 => m :: numsI (m + 1) n
theorem numsI_length (n : Nat) : ∀ m, (numsI m n).length = n := by
  induction n with
  | zero => intro m; rfl
  | succ n ih => intro m; simp [numsI, ih]
theorem markInt64S (l : List Int) (m : Int) (hm : 0 ≤ m) (hb : m ≤ 1000000000000) (h : l.length ≤ 9000000000000) : Ev (fun k => laws_markInt64S.f k l m) (m + (l.length : Int), numsI m l.length) := by
  have H : ∀ (t a : List Int) (m : Int), 0 ≤ m → m + (t.length : Int) ≤ 1000000000000000 → a.length + t.length ≤ 9000000000000 → Ev (fun k => laws_markInt64S.l0 k (a ++ t) m (a.length : Int)) (m + (t.length : Int), a ++ numsI m t.length) := by
    intro t
    induction t with
    | nil =>
      intro a m hm hb ha
      refine Ev.step (fun k => by rw [laws_markInt64S.l0]) ?_
      simp only [List.append_nil, if_neg (nlt_self a), List.length_nil, numsI]
      exact ev_eq (Ev.now _) (by simp)
    | cons x t ih =>
      intro a m hm hb ha
      simp only [List.length_cons] at hb ha
      refine Ev.step (fun k => by rw [laws_markInt64S.l0]) ?_
      have e : ((a.length : Int) < ((a ++ x :: t).length : Int)) := by simp; omega
      simp only [if_pos e, if_pos (nat_nn a.length), set_mid, w64 (x := m + 1) (by omega) (by omega), w64 (x := (a.length : Int) + 1) (by omega) (by omega)]
      have := ih (a ++ [m]) (m + 1) (by omega) (by omega) (by simp; omega)
      simp only [List.append_assoc, List.singleton_append, List.length_append, List.length_singleton] at this
      rw [show ((a.length + 1 : Nat) : Int) = (a.length : Int) + 1 by omega] at this
      refine ev_eq this ?_
      simp only [List.length_cons, numsI, Prod.mk.injEq, and_true]
      omega
  have := H l [] m hm (by omega) (by simpa using h)
  simpa [laws_markInt64S.f] using this
theorem heldInt64S (n : Nat) (m : Int) (hm : 0 ≤ m) (hb : m + (n : Int) ≤ 1000000000000000) : Ev (fun k => laws_heldInt64S.f k (numsI m n) m) (m + (n : Int)) := by
  have H := loop_list (numsI m n) (fun p s => ∀ q : Int, 0 ≤ q → q + (s.length : Int) ≤ 1000000000000000 → s = numsI q s.length → Ev (fun k => laws_heldInt64S.l0 k (numsI m n) q (p.length : Int)) (q + (s.length : Int))) ?_ ?_
  · have := H m hm (by rw [numsI_length]; omega) (by rw [numsI_length])
    rw [numsI_length] at this
    exact this
  · intro q h0 h1 hs
    refine Ev.step (fun k => by rw [laws_heldInt64S.l0]) ?_
    simp only [if_neg (nlt_self (numsI m n))]
    exact ev_eq (Ev.now _) (by simp)
  · intro p x s he ih q h0 h1 hs
    simp only [List.length_cons] at h1 hs
    rw [numsI] at hs
    obtain ⟨rfl, hs⟩ := List.cons.inj hs
    refine Ev.step (fun k => by rw [laws_heldInt64S.l0]) ?_
    have hl : (numsI m n).length ≤ 1000000000000000 := by rw [numsI_length]; omega
    have hx : rd (numsI m n) (p.length : Int) = x := mid_get he 0
    simp only [if_pos (mid_lt he), if_pos (nat_nn p.length), hx, if_true, mid_next he (by omega), w64 (x := x + 1) (by omega) (by omega)]
    refine ev_eq (ih (x + 1) (by omega) (by omega) hs) ?_
    simp only [List.length_cons]
    omega
def inR (a lo hi : Int) : Bool := decide (lo ≤ a) && decide (a ≤ hi)
theorem inR_iff {a lo hi : Int} : inR a lo hi = true ↔ lo ≤ a ∧ a ≤ hi := by simp [inR]
theorem l01In (a lo hi : Int) : spec_l01In.f a lo hi = some (inR a lo hi) := by
  unfold spec_l01In.f inR
  split
  · rename_i h; rw [decide_eq_true (show lo ≤ a from h), Bool.true_and]
  · rename_i h; rw [decide_eq_false (show ¬ lo ≤ a from h), Bool.false_and]
theorem inRange (a lo hi : Int) : impl_inRange.f a lo hi = some (inR a lo hi) := by
  unfold impl_inRange.f inR
  split
  · rename_i h; rw [decide_eq_true (show lo ≤ a from h), Bool.true_and]
  · rename_i h; rw [decide_eq_false (show ¬ lo ≤ a from h), Bool.false_and]
def okFlow (x : S59) : Bool := inR x.f0 0 100000 && inR x.f1 0 100000
theorem spec_AreFlowJobs (l : List S59) (h : l.length ≤ 1048576) : Ev (fun k => spec_AreFlowJobs.f k l) (l.all okFlow && decide (l.length ≤ 7)) := by
  refine loop_list l (fun p s => Ev (fun k => spec_AreFlowJobs.l0 k l (p.length : Int)) (s.all okFlow && decide (l.length ≤ 7))) ?_ ?_
  · refine Ev.step (fun k => by rw [spec_AreFlowJobs.l0]) ?_
    simp only [if_neg (nlt_self l), List.all_nil, Bool.true_and]
    exact ev_eq (Ev.now _) (decide_eq_decide.2 (by omega))
  · intro p x s he ih
    refine Ev.step (fun k => by rw [spec_AreFlowJobs.l0]) ?_
    simp only [if_pos (mid_lt he), if_pos (nat_nn p.length), mid_next he (by omega), rd_T59, mid_get he, l01In, Option.bind_some, List.all_cons]
    cases h0 : inR x.f0 0 100000 <;> cases h1 : inR x.f1 0 100000 <;> simp [okFlow, h0, h1] <;> first | exact Ev.now _ | simpa [mid_next he (by omega)] using ih
theorem impl_AreFlowJobs_1_ok (x : S59) : impl_AreFlowJobs_1.f x.f0 x.f1 = some (!(okFlow x)) := by
  simp only [impl_AreFlowJobs_1.f, impl_isMinutes.f, inRange, Option.bind_some, okFlow]
  cases inR x.f0 0 100000 <;> cases inR x.f1 0 100000 <;> rfl
theorem contains_impl_AreFlowJobs_1 (l : List S59) (h : l.length ≤ 1048576) : Ev (fun k => slices_ContainsFunc_at_impl_AreFlowJobs_1.f k l) (!(l.all okFlow)) := by
  have H := loop_list l (fun p s => ∃ r, Ev (fun k => slices_IndexFunc_at_impl_AreFlowJobs_1.l0 k l (l.length : Int) (p.length : Int)) r ∧ decide (r ≥ 0) = !(s.all okFlow)) ?_ ?_
  · obtain ⟨r, hr, e⟩ := H
    rw [← e]
    exact Ev.bind hr (Ev.now _)
  · refine ⟨-1, Ev.step (fun k => by rw [slices_IndexFunc_at_impl_AreFlowJobs_1.l0]) ?_, by simp⟩
    simp only [if_neg (nlt_self l)]
    exact Ev.now _
  · rintro p x s he ⟨r, ih, e⟩
    by_cases hx : okFlow x = true
    · refine ⟨r, Ev.step (fun k => by rw [slices_IndexFunc_at_impl_AreFlowJobs_1.l0]) ?_, by rw [e]; simp [hx]⟩
      simp only [if_pos (mid_lt he), if_pos (nat_nn p.length), rd_T59, mid_get he, impl_AreFlowJobs_1_ok, hx, Option.bind_some, mid_next he (by omega)]
      exact ih
    · refine ⟨(p.length : Int), Ev.step (fun k => by rw [slices_IndexFunc_at_impl_AreFlowJobs_1.l0]) ?_, by simp [hx]⟩
      simp only [if_pos (mid_lt he), if_pos (nat_nn p.length), rd_T59, mid_get he, impl_AreFlowJobs_1_ok, Bool.eq_false_iff.2 hx, Option.bind_some]
      exact Ev.now _
theorem impl_AreFlowJobs (l : List S59) (h : l.length ≤ 1048576) : Ev (fun k => impl_AreFlowJobs.f k l) (l.all okFlow && decide (l.length ≤ 7)) := by
  simp only [impl_AreFlowJobs.f]
  by_cases hl : (l.length : Int) ≤ 7
  · simp only [if_pos hl]
    exact ev_eq (Ev.bind (contains_impl_AreFlowJobs_1 l h) (Ev.now _)) (by simp [show l.length ≤ 7 by omega])
  · simp only [if_neg hl]
    exact ev_eq (Ev.now _) (by simp [show ¬ l.length ≤ 7 by omega])

/-- Each number is in the range, and none comes twice. -/
def ordF (n : Int) (seen : List Int) : List Int → Bool
  | [] => true
  | x :: s => inR x 0 (n - 1) && (!(decide (x ∈ seen)) && ordF n (seen ++ [x]) s)
def orderB (l : List Int) : Bool := ordF (l.length : Int) [] l && decide (l.length ≤ 64)
theorem spec_has (l : List Int) (y : Int) (h : l.length ≤ 9000000000000000000) : Ev (fun k => spec_l01Has.f k l y) (decide (y ∈ l)) := by
  refine loop_list l (fun p s => Ev (fun k => spec_l01Has.l0 k l y (p.length : Int)) (decide (y ∈ s))) ?_ ?_
  · refine Ev.step (fun k => by rw [spec_l01Has.l0]) ?_
    simp only [if_neg (nlt_self l)]
    exact ev_eq (Ev.now _) (by simp)
  · intro p x s he ih
    refine Ev.step (fun k => by rw [spec_l01Has.l0]) ?_
    have hx : rd l (p.length : Int) = x := mid_get he 0
    simp only [if_pos (mid_lt he), if_pos (nat_nn p.length), hx, mid_next he (by omega)]
    by_cases e : x = y
    · simp only [if_pos e]
      exact ev_eq (Ev.now _) (by simp [e])
    · simp only [if_neg e]
      exact ev_eq ih (by simp [show ¬ y = x from fun h => e h.symm])
theorem spec_IsOrder (l : List Int) (h : l.length ≤ 1048576) : Ev (fun k => spec_IsOrder.f k l) (orderB l) := by
  refine loop_list l (fun p s => Ev (fun k => spec_IsOrder.l0 k l (p.length : Int)) (ordF (l.length : Int) p s && decide (l.length ≤ 64))) ?_ ?_
  · refine Ev.step (fun k => by rw [spec_IsOrder.l0]) ?_
    simp only [if_neg (nlt_self l), ordF, Bool.true_and]
    exact ev_eq (Ev.now _) (decide_eq_decide.2 (by omega))
  · intro p x s he ih
    refine Ev.step (fun k => by rw [spec_IsOrder.l0]) ?_
    have hx : rd l (p.length : Int) = x := mid_get he 0
    have hp := mid_lt he
    have ht : l.take ((p.length : Int).toNat) = p := by rw [he, Int.toNat_natCast]; simp
    simp only [if_pos hp, if_pos (nat_nn p.length), hx, w64 (x := (l.length : Int) - 1) (by omega) (by omega), l01In, Option.bind_some, if_pos (show (p.length : Int) ≤ (l.length : Int) by omega), ht, mid_next he (by omega), ordF]
    cases inR x 0 ((l.length : Int) - 1)
    · simp only [Bool.false_eq_true, if_false, Bool.false_and]
      exact Ev.now _
    · simp only [if_true, Bool.true_and]
      refine Ev.bind (spec_has p x (by omega)) ?_
      cases decide (x ∈ p)
      · simp only [Bool.false_eq_true, if_false, Bool.not_false, Bool.true_and]
        exact ih
      · simp only [if_true, Bool.not_true, Bool.false_and]
        exact Ev.now _
theorem impl_IsOrder (l : List Int) (h : l.length ≤ 1048576) : Ev (fun k => impl_IsOrder.f k l) (orderB l) := by
  simp only [impl_IsOrder.f]
  by_cases hl : (l.length : Int) > 64
  · simp only [if_pos hl]
    exact ev_eq (Ev.now _) (by simp [orderB, show ¬ l.length ≤ 64 by omega])
  · simp only [if_neg hl, if_pos (nat_nn l.length), Int.toNat_natCast, if_pos (show l.length ≤ 281474976710656 by omega)]
    refine ev_eq (r := ordF (l.length : Int) [] l) ?_ (by simp [orderB, show l.length ≤ 64 by omega])
    refine loop_list l (fun p s => ∀ b : List Bool, b.length = l.length → (∀ v : Nat, v < l.length → b.getD v false = decide ((v : Int) ∈ p)) → Ev (fun k => impl_IsOrder.l0 k l b l (l.length : Int) (p.length : Int)) (ordF (l.length : Int) p s)) ?_ ?_ (List.replicate l.length false) (by simp) (by intro v hv; simp [List.getD_eq_getElem?_getD, List.getElem?_replicate, hv])
    · intro b hb hv
      refine Ev.step (fun k => by rw [impl_IsOrder.l0]) ?_
      simp only [if_neg (nlt_self l), ordF]
      exact Ev.now _
    · intro p x s he ih b hb hv
      refine Ev.step (fun k => by rw [impl_IsOrder.l0]) ?_
      have hx : rd l (p.length : Int) = x := mid_get he 0
      have hp := mid_lt he
      simp only [if_pos hp, if_pos (nat_nn p.length), hx, impl_length_int64.f, w64 (x := (l.length : Int) - 1) (by omega) (by omega), inRange, Option.bind_some, mid_next he (by omega), ordF]
      cases hr : inR x 0 ((l.length : Int) - 1)
      · simp only [Bool.false_eq_true, if_false, Bool.false_and]
        exact Ev.now _
      · obtain ⟨h0, h1⟩ := inR_iff.1 hr
        have hg : rdOf false b x = decide (x ∈ p) := by
          have := hv x.toNat (by omega)
          rw [show ((x.toNat : Nat) : Int) = x by omega] at this
          rw [← this]
          rfl
        simp only [if_true, Bool.true_and, if_pos h0, if_pos (show x < (b.length : Int) by omega), hg]
        cases hd : decide (x ∈ p)
        · simp only [Bool.false_eq_true, if_false, Bool.not_false, Bool.true_and]
          refine ih (b.set x.toNat true) (by simpa using hb) (fun v hv' => ?_)
          have := hv v hv'
          simp only [List.getD_eq_getElem?_getD, List.getElem?_set, hb] at this ⊢
          by_cases e : x.toNat = v
          · simp [e, hv', show (v : Int) = x by omega]
          · simp only [if_neg e, List.mem_append, List.mem_singleton, this]
            simp [show ¬ (v : Int) = x by omega]
        · simp only [if_true, Bool.not_true, Bool.false_and]
          exact Ev.now _
theorem ordF_mem {n : Int} : ∀ (s seen : List Int), ordF n seen s = true → ∀ x ∈ s, 0 ≤ x ∧ x < n := by
  intro s
  induction s with
  | nil => intro seen _ x hx; cases hx
  | cons y s ih =>
    intro seen h x hx
    simp only [ordF, Bool.and_eq_true, inR_iff] at h
    rcases List.mem_cons.1 hx with rfl | hx
    · omega
    · exact ih _ h.2.2 x hx
theorem orderB_mem {l : List Int} (h : orderB l = true) {x : Int} (hx : x ∈ l) : 0 ≤ x ∧ x < (l.length : Int) := by
  simp only [orderB, Bool.and_eq_true] at h
  exact ordF_mem _ _ h.1 x hx
def flowB (l : List S59) : Bool := l.all okFlow && decide (l.length ≤ 7)
def flowCode (l : List S59) (o : List Int) : Int := if flowB l = true then (if orderB o = true then (if (o.length : Int) = (l.length : Int) then 0 else 2) else 2) else 1
theorem spec_flowCode (l : List S59) (o : List Int) (h : l.length ≤ 1048576) (ho : o.length ≤ 1048576) : Ev (fun k => spec_l21Code.f k l o) (flowCode l o) := by
  simp only [spec_l21Code.f]
  refine Ev.bind (a := flowB l) (spec_AreFlowJobs l h) ?_
  cases h1 : flowB l
  · simp only [Bool.false_eq_true, if_false]
    exact ev_eq (Ev.now _) (by simp [flowCode, h1])
  · simp only [if_true]
    refine Ev.bind (spec_IsOrder o ho) ?_
    cases h2 : orderB o <;> simp only [Bool.false_eq_true, if_false, if_true]
    · exact ev_eq (Ev.now _) (by simp [flowCode, h1, h2])
    · by_cases h3 : (o.length : Int) = (l.length : Int)
      · simp only [if_pos h3]
        exact ev_eq (Ev.now _) (by simp only [flowCode, h1, h2, if_true, if_pos h3])
      · simp only [if_neg h3]
        exact ev_eq (Ev.now _) (by simp only [flowCode, h1, h2, if_true, if_neg h3])
theorem impl_flowCode (l : List S59) (o : List Int) (h : l.length ≤ 1048576) (ho : o.length ≤ 1048576) : Ev (fun k => impl_checkFlow.f k l o) (flowCode l o) := by
  simp only [impl_checkFlow.f]
  refine Ev.bind (a := flowB l) (impl_AreFlowJobs l h) ?_
  cases h1 : flowB l
  · simp only [Bool.false_eq_true, if_false]
    exact ev_eq (Ev.now _) (by simp [flowCode, h1])
  · simp only [if_true]
    refine Ev.bind (impl_IsOrder o ho) ?_
    cases h2 : orderB o <;> simp only [Bool.false_eq_true, if_false, if_true]
    · exact ev_eq (Ev.now _) (by simp [flowCode, h1, h2])
    · by_cases h3 : (o.length : Int) = (l.length : Int)
      · simp only [if_pos h3]
        exact ev_eq (Ev.now _) (by simp only [flowCode, h1, h2, if_true, if_pos h3])
      · simp only [if_neg h3]
        exact ev_eq (Ev.now _) (by simp only [flowCode, h1, h2, if_true, if_neg h3])
theorem flowCode_zero {l : List S59} {o : List Int} (h : flowCode l o = 0) : flowB l = true ∧ orderB o = true ∧ o.length = l.length ∧ l.length ≤ 7 := by
  unfold flowCode at h
  by_cases h1 : flowB l = true <;> by_cases h2 : orderB o = true <;> by_cases h3 : (o.length : Int) = (l.length : Int) <;> simp [h1, h2, h3] at h
  refine ⟨h1, h2, by omega, ?_⟩
  simp only [flowB, Bool.and_eq_true, decide_eq_true_eq] at h1
  exact h1.2
theorem both_flowCode {α : Type} (l : List S59) (o : List Int) (h : l.length ≤ 1048576) (ho : o.length ≤ 1048576) (g g' : Nat → Option α) (e : Int → α) (hg : flowCode l o = 0 → ∃ r, Ev g r ∧ Ev g' r) :
    ∃ r, Ev (fun k => (spec_l21Code.f k l o).bind fun c => if c = 0 then g k else some (e c)) r ∧ Ev (fun k => (impl_checkFlow.f k l o).bind fun c => if c = 0 then g' k else some (e c)) r := by
  by_cases hc : flowCode l o = 0
  · obtain ⟨r, h1, h2⟩ := hg hc
    refine ⟨r, Ev.bind (spec_flowCode l o h ho) ?_, Ev.bind (impl_flowCode l o h ho) ?_⟩ <;> simp only [if_pos hc]
    · exact h1
    · exact h2
  · refine ⟨e (flowCode l o), Ev.bind (spec_flowCode l o h ho) ?_, Ev.bind (impl_flowCode l o h ho) ?_⟩ <;> simp only [if_neg hc] <;> exact Ev.now _
def sumI (f : Int → Int) : List Int → Int
  | [] => 0
  | x :: s => f x + sumI f s
def sumN (f : Int → Int) : Nat → Int
  | 0 => 0
  | n + 1 => sumN f n + f (n : Int)
theorem sumI_perm (f : Int → Int) {a b : List Int} (h : a.Perm b) : sumI f a = sumI f b := by
  induction h with
  | nil => rfl
  | cons x _ ih => simp only [sumI, ih]
  | swap x y l => simp only [sumI]; omega
  | trans _ _ h1 h2 => rw [h1, h2]
theorem sumI_snoc (f : Int → Int) (a : List Int) (x : Int) : sumI f (a ++ [x]) = sumI f a + f x := by
  induction a with
  | nil => simp [sumI]
  | cons y a ih => simp only [List.cons_append, sumI, ih]; omega
theorem ordF_nodup {n : Int} : ∀ (s seen : List Int), ordF n seen s = true → s.Nodup ∧ ∀ x ∈ s, x ∉ seen := by
  intro s
  induction s with
  | nil => intro seen _; exact ⟨List.nodup_nil, fun x hx => by cases hx⟩
  | cons y s ih =>
    intro seen h
    simp only [ordF, Bool.and_eq_true, Bool.not_eq_true', decide_eq_false_iff_not] at h
    obtain ⟨h1, h2⟩ := ih _ h.2.2
    refine ⟨List.nodup_cons.2 ⟨fun hy => h2 y hy (by simp), h1⟩, fun x hx => ?_⟩
    rcases List.mem_cons.1 hx with rfl | hx
    · exact h.2.1
    · intro hs; exact h2 x hx (by simp [hs])
theorem orderB_nodup {l : List Int} (h : orderB l = true) : l.Nodup := by
  simp only [orderB, Bool.and_eq_true] at h
  exact (ordF_nodup _ _ h.1).1
theorem nodup_short : ∀ (n : Nat) (o : List Int), o.Nodup → (∀ x ∈ o, 0 ≤ x ∧ x < (n : Int)) → o.length ≤ n := by
  intro n
  induction n with
  | zero =>
    intro o _ h
    cases o with
    | nil => simp
    | cons x o => have := h x (by simp); omega
  | succ n ih =>
    intro o hn h
    have h1 := ih (o.erase (n : Int)) (hn.erase _) (fun x hx => by
      have h1 := h x (List.mem_of_mem_erase hx)
      have h2 : x ≠ (n : Int) := fun e => by subst e; exact hn.not_mem_erase hx
      omega)
    have h2 := List.length_erase (a := (n : Int)) (l := o)
    split at h2 <;> omega
theorem sum_order : ∀ (n : Nat) (o : List Int) (f : Int → Int), o.Nodup → (∀ x ∈ o, 0 ≤ x ∧ x < (n : Int)) → o.length = n → sumI f o = sumN f n := by
  intro n
  induction n with
  | zero =>
    intro o f _ _ hl
    rw [List.eq_nil_of_length_eq_zero hl]
    rfl
  | succ n ih =>
    intro o f hn h hl
    have hm : (n : Int) ∈ o := by
      apply Decidable.byContradiction
      intro hm
      have := nodup_short n o hn (fun x hx => by
        have h1 := h x hx
        have h2 : x ≠ (n : Int) := fun e => by subst e; exact hm hx
        omega)
      omega
    rw [sumI_perm f (List.perm_cons_erase hm)]
    have := ih (o.erase (n : Int)) f (hn.erase _) (fun x hx => by
      have h1 := h x (List.mem_of_mem_erase hx)
      have h2 : x ≠ (n : Int) := fun e => by subst e; exact hn.not_mem_erase hx
      omega) (by rw [List.length_erase_of_mem hm]; omega)
    simp only [sumI, sumN, this]
    omega
theorem ordF_of {n : Int} : ∀ (s seen : List Int), s.Nodup → (∀ x ∈ s, x ∉ seen) → (∀ x ∈ s, 0 ≤ x ∧ x < n) → ordF n seen s = true := by
  intro s
  induction s with
  | nil => intro seen _ _ _; rfl
  | cons y s ih =>
    intro seen hn hs hr
    obtain ⟨h1, h2⟩ := List.nodup_cons.1 hn
    have h3 := hr y (by simp)
    simp only [ordF, Bool.and_eq_true, Bool.not_eq_true', decide_eq_false_iff_not, inR_iff]
    refine ⟨by omega, hs y (by simp), ih _ h2 (fun x hx => ?_) (fun x hx => hr x (by simp [hx]))⟩
    intro hm
    rcases List.mem_append.1 hm with hm | hm
    · exact hs x (by simp [hx]) hm
    · have : x = y := by simpa using hm
      subst this; exact h1 hx
theorem mxe (a b : Int) : mx a b = if a < b then b else a := rfl
/-- The time at which the second machine stops. -/
def endI (F G : Int → Int) : Int → Int → List Int → Int
  | _, b, [] => b
  | a, b, x :: t => endI F G (a + F x) (mx (a + F x) b + G x) t
def pathI (F G : Int → Int) : List Int → Int
  | [] => 0
  | x :: t => F x + mx (G x + sumI G t) (pathI F G t)
theorem endI_app (F G : Int → Int) : ∀ (q t : List Int) (a b : Int), endI F G a b (q ++ t) = endI F G (a + sumI F q) (endI F G a b q) t := by
  intro q
  induction q with
  | nil => intro t a b; simp [endI, sumI]
  | cons x q ih =>
    intro t a b
    simp only [List.cons_append, endI, sumI, ih]
    rw [show a + F x + sumI F q = a + (F x + sumI F q) by omega]
theorem endI_ge (F G : Int → Int) : ∀ (t : List Int) (a b : Int), (∀ x ∈ t, 0 ≤ F x ∧ 0 ≤ G x) → b ≤ endI F G a b t := by
  intro t
  induction t with
  | nil => intro a b _; exact Int.le_refl _
  | cons x t ih =>
    intro a b h
    have h0 := h x (by simp)
    have := ih (a + F x) (mx (a + F x) b + G x) (fun y hy => h y (by simp [hy]))
    have e := mxe (a + F x) b
    simp only [endI]
    split at e <;> omega
theorem endI_le (F G : Int → Int) (N : Int) : ∀ (t : List Int) (a b M : Int), (∀ x ∈ t, 0 ≤ F x ∧ F x ≤ N ∧ 0 ≤ G x ∧ G x ≤ N) → a ≤ M → b ≤ M → endI F G a b t ≤ M + 2 * N * (t.length : Int) := by
  intro t
  induction t with
  | nil => intro a b M _ _ h; simp only [endI, List.length_nil]; omega
  | cons x t ih =>
    intro a b M h ha hb
    have h0 := h x (by simp)
    have e := mxe (a + F x) b
    have := ih (a + F x) (mx (a + F x) b + G x) (M + 2 * N) (fun y hy => h y (by simp [hy])) (by omega) (by split at e <;> omega)
    simp only [endI, List.length_cons]
    rw [show ((t.length + 1 : Nat) : Int) = (t.length : Int) + 1 by omega, Int.mul_add, Int.mul_one]
    omega
theorem sumI_range (F : Int → Int) (N : Int) : ∀ (t : List Int), (∀ x ∈ t, 0 ≤ F x ∧ F x ≤ N) → 0 ≤ sumI F t ∧ sumI F t ≤ N * (t.length : Int) := by
  intro t
  induction t with
  | nil => intro _; simp [sumI]
  | cons x t ih =>
    intro h
    have h0 := h x (by simp)
    have := ih (fun y hy => h y (by simp [hy]))
    simp only [sumI, List.length_cons]
    rw [show ((t.length + 1 : Nat) : Int) = (t.length : Int) + 1 by omega, Int.mul_add, Int.mul_one]
    omega
theorem endI_path (F G : Int → Int) : ∀ (t : List Int) (a b : Int), (∀ x ∈ t, 0 ≤ F x ∧ 0 ≤ G x) → a ≤ b → endI F G a b t = mx (b + sumI G t) (a + pathI F G t) := by
  intro t
  induction t with
  | nil => intro a b _ h; simp only [endI, sumI, pathI, mxe]; split <;> omega
  | cons x t ih =>
    intro a b h hab
    have h0 := h x (by simp)
    have e := mxe (a + F x) b
    have e2 := mxe (G x + sumI G t) (pathI F G t)
    simp only [endI, sumI, pathI]
    rw [ih _ _ (fun y hy => h y (by simp [hy])) (by split at e <;> omega), mxe, mxe (b + (G x + sumI G t))]
    split at e <;> split at e2 <;> split <;> split <;> omega
theorem path_ge (F G : Int → Int) : ∀ (t : List Int), (∀ x ∈ t, 0 ≤ F x ∧ 0 ≤ G x) → sumI F t ≤ pathI F G t ∧ sumI G t ≤ pathI F G t := by
  intro t
  induction t with
  | nil => intro _; exact ⟨Int.le_refl _, Int.le_refl _⟩
  | cons x t ih =>
    intro h
    have h0 := h x (by simp)
    obtain ⟨h1, h2⟩ := ih (fun y hy => h y (by simp [hy]))
    have e2 := mxe (G x + sumI G t) (pathI F G t)
    simp only [sumI, pathI]
    split at e2 <;> omega
theorem path_snoc (F G : Int → Int) (x : Int) (h0 : 0 ≤ F x ∧ 0 ≤ G x) : ∀ (t : List Int), pathI F G (t ++ [x]) = mx (pathI F G t + G x) (sumI F t + F x + G x) := by
  intro t
  induction t with
  | nil => simp only [List.nil_append, pathI, sumI, mxe]; split <;> split <;> omega
  | cons y t ih =>
    simp only [List.cons_append, pathI, sumI, ih, sumI_snoc]
    simp only [mxe]
    split <;> split <;> split <;> (try split) <;> omega
theorem path_turn (F G : Int → Int) : ∀ (t : List Int), (∀ x ∈ t, 0 ≤ F x ∧ 0 ≤ G x) → pathI G F t.reverse = pathI F G t := by
  intro t
  induction t with
  | nil => intro _; rfl
  | cons x t ih =>
    intro h
    have h0 := h x (by simp)
    rw [List.reverse_cons, path_snoc G F x ⟨h0.2, h0.1⟩, ih (fun y hy => h y (by simp [hy])), sumI_perm G (List.reverse_perm t)]
    simp only [pathI, mxe]
    split <;> split <;> omega
theorem sumI_congr {F F' : Int → Int} : ∀ {t : List Int}, (∀ x ∈ t, F x = F' x) → sumI F t = sumI F' t := by
  intro t
  induction t with
  | nil => intro _; rfl
  | cons x t ih => intro h; simp only [sumI, h x (by simp), ih (fun y hy => h y (by simp [hy]))]
theorem endI_congr {F G F' G' : Int → Int} : ∀ {t : List Int} {a b : Int}, (∀ x ∈ t, F x = F' x ∧ G x = G' x) → endI F G a b t = endI F' G' a b t := by
  intro t
  induction t with
  | nil => intro a b _; rfl
  | cons x t ih =>
    intro a b h
    have h0 := h x (by simp)
    simp only [endI, h0.1, h0.2, ih (fun y hy => h y (by simp [hy]))]
/-- The turned flow ends when the flow does. -/
theorem endI_turn (F G : Int → Int) (t : List Int) (h : ∀ x ∈ t, 0 ≤ F x ∧ 0 ≤ G x) : endI G F 0 0 t.reverse = endI F G 0 0 t := by
  rw [endI_path G F t.reverse 0 0 (fun x hx => by have := h x (by simpa using hx); omega) (by omega), endI_path F G t 0 0 h (by omega), path_turn F G t h, sumI_perm F (List.reverse_perm t)]
  obtain ⟨h1, h2⟩ := path_ge F G t h
  simp only [mxe]
  split <;> split <;> omega
theorem endI_sum (F G : Int → Int) (t : List Int) (h : ∀ x ∈ t, 0 ≤ F x ∧ 0 ≤ G x) : sumI G t ≤ endI F G 0 0 t := by
  rw [endI_path F G t 0 0 h (by omega), mxe]
  split <;> omega
theorem orderB_rev {o : List Int} (h : orderB o = true) : orderB o.reverse = true := by
  have hn := orderB_nodup h
  have hm := fun x hx => orderB_mem h (x := x) hx
  simp only [orderB, Bool.and_eq_true, decide_eq_true_eq] at h ⊢
  refine ⟨ordF_of _ _ ?_ (fun x hx => by simp) (fun x hx => ?_), by simpa using h.2⟩
  · exact (List.reverse_perm o).nodup_iff.2 hn
  · have := hm x (by simpa using hx)
    simpa using this
def fF (l : List S59) (i : Int) : Int := (rd_T59 l i).f0
def fG (l : List S59) (i : Int) : Int := (rd_T59 l i).f1
theorem flow_ok {l : List S59} (h : flowB l = true) {i : Int} (h0 : 0 ≤ i) (h1 : i < (l.length : Int)) : 0 ≤ fF l i ∧ fF l i ≤ 100000 ∧ 0 ≤ fG l i ∧ fG l i ≤ 100000 := by
  simp only [flowB, Bool.and_eq_true, List.all_eq_true] at h
  have hm : rd_T59 l i ∈ l := by
    have : i.toNat < l.length := by omega
    unfold rd_T59
    rw [List.getD_eq_getElem?_getD, List.getElem?_eq_getElem this]
    exact List.getElem_mem this
  have := h.1 _ hm
  simp only [okFlow, Bool.and_eq_true, inR_iff] at this
  unfold fF fG
  omega
theorem rd_L3_set {d : List (List Int)} {i x : Int} {v : List Int} (hi : 0 ≤ i) (hx : 0 ≤ x) (hxl : x < (d.length : Int)) : rd_L3 (d.set x.toNat v) i = if i = x then v else rd_L3 d i := by
  unfold rd_L3
  simp only [List.getD_eq_getElem?_getD, List.getElem?_set]
  by_cases e : x.toNat = i.toNat
  · rw [if_pos e, if_pos (show i = x by omega), if_pos (show x.toNat < d.length by omega)]; simp
  · rw [if_neg e, if_neg (show ¬ i = x by omega)]
theorem snoc_split {α : Type} {p q t : List α} {x y : α} (h : p ++ [x] = q ++ y :: t) : (t = [] ∧ p = q ∧ x = y) ∨ ∃ t', t = t' ++ [x] ∧ p = q ++ y :: t' := by
  rcases nil_or_snoc t with rfl | ⟨t', z, rfl⟩
  · have := List.append_inj' h rfl
    exact Or.inl ⟨rfl, this.1, by simpa using this.2⟩
  · have h' : p ++ [x] = (q ++ y :: t') ++ [z] := by simpa using h
    have := List.append_inj' h' rfl
    have hz : x = z := by simpa using this.2
    subst hz
    exact Or.inr ⟨t', rfl, this.1⟩
theorem flow_told {l : List S59} {o : List Int} (hc : flowCode l o = 0) : ∃ r : List (List Int), Ev (fun k => spec_l21Starts.f k l o) (r, endI (fF l) (fG l) 0 0 o) ∧ Ev (fun k => impl_flow.f k l o) (r, endI (fF l) (fG l) 0 0 o) ∧ r.length = l.length ∧ (∀ y ∈ r, y.length ≤ 2) ∧
    ∀ q y t, o = q ++ y :: t → rd_L3 r y = [sumI (fF l) q, mx (sumI (fF l) q + fF l y) (endI (fF l) (fG l) 0 0 q)] := by
  obtain ⟨hf, hb, hol, hl7⟩ := flowCode_zero hc
  have hn := orderB_nodup hb
  have hm : ∀ x ∈ o, 0 ≤ x ∧ x < (l.length : Int) := fun x hx => by rw [← hol]; exact orderB_mem hb hx
  have hok : ∀ x ∈ o, 0 ≤ fF l x ∧ fF l x ≤ 100000 ∧ 0 ≤ fG l x ∧ fG l x ≤ 100000 := fun x hx => flow_ok hf (hm x hx).1 (hm x hx).2
  simp only [spec_l21Starts.f, impl_flow.f, if_pos (nat_nn l.length), Int.toNat_natCast, if_pos (show l.length ≤ 11728124029610 by omega)]
  refine loop_list o (fun p s => ∀ (x6 : List (List Int)), x6.length = l.length → (∀ y ∈ x6, y.length ≤ 2) → (∀ q y t, p = q ++ y :: t → rd_L3 x6 y = [sumI (fF l) q, mx (sumI (fF l) q + fF l y) (endI (fF l) (fG l) 0 0 q)]) → o = p ++ s →
    ∃ r : List (List Int), Ev (fun k => spec_l21Starts.l0 k l o x6 (sumI (fF l) p) (endI (fF l) (fG l) 0 0 p) (p.length : Int)) (r, endI (fF l) (fG l) 0 0 o) ∧ Ev (fun k => impl_flow.l0 k l x6 (sumI (fF l) p) (endI (fF l) (fG l) 0 0 p) o (o.length : Int) (p.length : Int)) (r, endI (fF l) (fG l) 0 0 o) ∧ r.length = l.length ∧ (∀ y ∈ r, y.length ≤ 2) ∧
    ∀ q y t, o = q ++ y :: t → rd_L3 r y = [sumI (fF l) q, mx (sumI (fF l) q + fF l y) (endI (fF l) (fG l) 0 0 q)]) ?_ ?_ (List.replicate l.length []) (by simp) (by intro y hy; have := List.eq_of_mem_replicate hy; subst this; simp) (by intro q y t h; simp at h) rfl
  · intro x6 h6 h2 hs _
    refine ⟨x6, Ev.step (fun k => by rw [spec_l21Starts.l0]) ?_, Ev.step (fun k => by rw [impl_flow.l0]) ?_, h6, h2, hs⟩ <;> simp only [if_neg (nlt_self o)] <;> exact Ev.now _
  · intro p x s he ih x6 h6 h2 hs ho
    have hx : rd o (p.length : Int) = x := mid_get he 0
    have hxr := hm x (by rw [he]; simp)
    have hp := mid_lt he
    have hpo : ∀ y ∈ p, y ∈ o := fun y hy => by rw [he]; simp [hy]
    obtain ⟨j0, j1, j2, j3⟩ := hok x (by rw [he]; simp)
    obtain ⟨a0, a1⟩ := sumI_range (fF l) 100000 p (fun y hy => by have := hok y (hpo y hy); omega)
    have b0 := endI_ge (fF l) (fG l) p 0 0 (fun y hy => by have := hok y (hpo y hy); omega)
    have b1 := endI_le (fF l) (fG l) 100000 p 0 0 0 (fun y hy => hok y (hpo y hy)) (by omega) (by omega)
    have e1 : wrap64 (sumI (fF l) p + (rd_T59 l x).f0) = sumI (fF l) p + fF l x := w64 (by show _ ≤ sumI (fF l) p + fF l x; omega) (by show sumI (fF l) p + fF l x ≤ _; omega)
    have em := mxe (sumI (fF l) p + fF l x) (endI (fF l) (fG l) 0 0 p)
    have e2 : wrap64 (mx (sumI (fF l) p + fF l x) (endI (fF l) (fG l) 0 0 p) + (rd_T59 l x).f1) = mx (sumI (fF l) p + fF l x) (endI (fF l) (fG l) 0 0 p) + fG l x := by
      apply w64
      · show _ ≤ mx (sumI (fF l) p + fF l x) (endI (fF l) (fG l) 0 0 p) + fG l x
        split at em <;> omega
      · show mx (sumI (fF l) p + fF l x) (endI (fF l) (fG l) 0 0 p) + fG l x ≤ _
        split at em <;> omega
    have s1 : sumI (fF l) (p ++ [x]) = sumI (fF l) p + fF l x := sumI_snoc _ _ _
    have s2 : endI (fF l) (fG l) 0 0 (p ++ [x]) = mx (sumI (fF l) p + fF l x) (endI (fF l) (fG l) 0 0 p) + fG l x := by
      rw [endI_app]; simp only [endI, Int.zero_add]
    obtain ⟨r, h1, h2', h3⟩ := ih (x6.set x.toNat [sumI (fF l) p, mx (sumI (fF l) p + fF l x) (endI (fF l) (fG l) 0 0 p)]) (by simpa using h6) (by
      intro y hy
      rcases List.mem_or_eq_of_mem_set hy with hy | rfl
      · exact h2 y hy
      · simp) (by
      intro q y t hq
      rcases snoc_split hq with ⟨_, rfl, rfl⟩ | ⟨t', rfl, hp'⟩
      · rw [rd_L3_set hxr.1 hxr.1 (by omega), if_pos rfl]
      · have hy : y ∈ o := hpo y (by rw [hp']; simp)
        have hne : y ≠ x := by
          intro e
          subst e
          rw [he] at hn
          have := (List.nodup_append.1 hn).2.2
          exact this y (by rw [hp']; simp) y (by simp) rfl
        rw [rd_L3_set (hm y hy).1 hxr.1 (by omega), if_neg hne]
        exact hs q y t' hp') (by rw [he]; simp)
    rw [s1, s2] at h1 h2'
    refine ⟨r, Ev.step (fun k => by rw [spec_l21Starts.l0]) ?_, Ev.step (fun k => by rw [impl_flow.l0]) ?_, h3⟩ <;> simp only [if_pos hp, if_pos (nat_nn p.length), hx, if_pos hxr.1, if_pos hxr.2, if_pos (show x < (x6.length : Int) by omega), mid_next he (by omega), e1, e2]
    · exact h1
    · exact h2'
theorem eqInt64SS (l : List (List Int)) (h : l.length ≤ 9000000000000000000) (hx : ∀ x ∈ l, x.length ≤ 9000000000000000000) : Ev (fun k => laws_eqInt64SS.f k l l) true := by
  simp only [laws_eqInt64SS.f, if_true]
  refine loop_list l (fun p s => Ev (fun k => laws_eqInt64SS.l0 k l l (p.length : Int)) true) ?_ ?_
  · refine Ev.step (fun k => by rw [laws_eqInt64SS.l0]) ?_
    simp only [if_neg (nlt_self l)]
    exact Ev.now _
  · intro p x s he ih
    have hm : rd_L3 l (p.length : Int) = x := mid_get he _
    refine Ev.step (fun k => by rw [laws_eqInt64SS.l0]) ?_
    simp only [if_pos (mid_lt he), if_pos (nat_nn p.length), hm]
    refine Ev.bind (eqInt64S x (hx x (by rw [he]; simp))) ?_
    simp only [if_true, mid_next he (by omega)]
    exact ih
/-- Rows of l's lengths that hold the numbers from m on. -/
def numsSS (m : Int) : List (List Int) → List (List Int)
  | [] => []
  | x :: t => numsI m x.length :: numsSS (m + (x.length : Int)) t
def totSS : List (List Int) → Int
  | [] => 0
  | x :: t => (x.length : Int) + totSS t
theorem totSS_nn (l : List (List Int)) : 0 ≤ totSS l := by
  induction l with
  | nil => simp [totSS]
  | cons x t ih => simp only [totSS]; omega
theorem totSS_le (l : List (List Int)) (h : ∀ x ∈ l, x.length ≤ 2) : totSS l ≤ 2 * (l.length : Int) := by
  induction l with
  | nil => simp [totSS]
  | cons x t ih =>
    have := ih (fun y hy => h y (by simp [hy]))
    have := h x (by simp)
    simp only [totSS, List.length_cons]
    omega
theorem numsSS_length (l : List (List Int)) : ∀ m, (numsSS m l).length = l.length := by
  induction l with
  | nil => intro m; rfl
  | cons x t ih => intro m; simp [numsSS, ih]
theorem markInt64SS (l : List (List Int)) (m : Int) (hm : 0 ≤ m) (hb : m + totSS l ≤ 1000000000000) (h : l.length ≤ 9000000000000) : Ev (fun k => laws_markInt64SS.f k l m) (m + totSS l, numsSS m l) := by
  have H : ∀ (t a : List (List Int)) (m : Int), 0 ≤ m → m + totSS t ≤ 1000000000000 → a.length + t.length ≤ 9000000000000 → Ev (fun k => laws_markInt64SS.l0 k (a ++ t) m (a.length : Int)) (m + totSS t, a ++ numsSS m t) := by
    intro t
    induction t with
    | nil =>
      intro a m hm hb ha
      refine Ev.step (fun k => by rw [laws_markInt64SS.l0]) ?_
      simp only [List.append_nil, if_neg (nlt_self a), numsSS, totSS]
      exact ev_eq (Ev.now _) (by simp)
    | cons x t ih =>
      intro a m hm hb ha
      simp only [List.length_cons] at ha
      simp only [totSS] at hb
      have t0 := totSS_nn t
      refine Ev.step (fun k => by rw [laws_markInt64SS.l0]) ?_
      have e : ((a.length : Int) < ((a ++ x :: t).length : Int)) := by simp; omega
      simp only [if_pos e, if_pos (nat_nn a.length), get_mid]
      refine Ev.bind (markInt64S x m hm (by omega) (by omega)) ?_
      simp only [set_mid, w64 (x := (a.length : Int) + 1) (by omega) (by omega)]
      have := ih (a ++ [numsI m x.length]) (m + (x.length : Int)) (by omega) (by omega) (by simp; omega)
      simp only [List.append_assoc, List.singleton_append, List.length_append, List.length_singleton] at this
      rw [show ((a.length + 1 : Nat) : Int) = (a.length : Int) + 1 by omega] at this
      refine ev_eq this ?_
      simp only [numsSS, totSS, Prod.mk.injEq, and_true]
      omega
  have := H l [] m hm hb (by simpa using h)
  simpa [laws_markInt64SS.f] using this
theorem heldInt64SS (l : List (List Int)) (m : Int) (hm : 0 ≤ m) (hb : m + totSS l ≤ 1000000000000) (hl : l.length ≤ 9000000000000) : Ev (fun k => laws_heldInt64SS.f k (numsSS m l) m) (m + totSS l) := by
  have H := loop_list (numsSS m l) (fun p s => ∀ (q : Int) (t : List (List Int)), 0 ≤ q → q + totSS t ≤ 1000000000000 → s = numsSS q t → Ev (fun k => laws_heldInt64SS.l0 k (numsSS m l) q (p.length : Int)) (q + totSS t)) ?_ ?_
  · exact H m l hm hb rfl
  · intro q t h0 h1 hs
    have : t = [] := by
      cases t with
      | nil => rfl
      | cons x t => simp [numsSS] at hs
    subst this
    refine Ev.step (fun k => by rw [laws_heldInt64SS.l0]) ?_
    simp only [if_neg (nlt_self (numsSS m l))]
    exact ev_eq (Ev.now _) (by simp [totSS])
  · intro p x s he ih q t h0 h1 hs
    obtain ⟨y, t, rfl⟩ : ∃ y t', t = y :: t' := by
      cases t with
      | nil => simp [numsSS] at hs
      | cons y t => exact ⟨y, t, rfl⟩
    simp only [totSS] at h1
    have t0 := totSS_nn t
    rw [numsSS] at hs
    have hs2 := (List.cons.inj hs).2
    obtain rfl : x = numsI q y.length := (List.cons.inj hs).1
    have hl' : (numsSS m l).length ≤ 9000000000000 := by rw [numsSS_length]; omega
    have hx : rd_L3 (numsSS m l) (p.length : Int) = numsI q y.length := mid_get he _
    refine Ev.step (fun k => by rw [laws_heldInt64SS.l0]) ?_
    simp only [if_pos (mid_lt he), if_pos (nat_nn p.length), hx]
    refine Ev.bind (heldInt64S y.length q h0 (by omega)) ?_
    simp only [if_neg (show ¬ (q + (y.length : Int) < 0) by omega), mid_next he (by omega)]
    refine ev_eq (ih (q + (y.length : Int)) t (by omega) (by omega) hs2) ?_
    simp only [totSS]
    omega
theorem both_FlowStarts (l : List S59) (o : List Int) (h : l.length ≤ 1048576) (ho : o.length ≤ 1048576) : ∃ r, Ev (fun k => spec_FlowStarts.f k l o) r ∧ Ev (fun k => impl_FlowStarts.f k l o) r ∧ r.1.length ≤ 1048576 ∧ ∀ y ∈ r.1, y.length ≤ 2 := by
  simp only [spec_FlowStarts.f, impl_FlowStarts.f]
  by_cases hc : flowCode l o = 0
  · obtain ⟨r, h1, h2, h3, h4, _⟩ := flow_told hc
    refine ⟨(r, 0), Ev.bind (spec_flowCode l o h ho) ?_, Ev.bind (impl_flowCode l o h ho) ?_, by simp only [h3]; exact h, h4⟩ <;> simp only [if_pos hc]
    · exact Ev.bind h1 (Ev.now _)
    · exact Ev.bind h2 (Ev.now _)
  · refine ⟨([], flowCode l o), Ev.bind (spec_flowCode l o h ho) ?_, Ev.bind (impl_flowCode l o h ho) ?_, by simp, by simp⟩ <;> simp only [if_neg hc] <;> exact Ev.now _
theorem FnExactFlowStarts : laws_FnExactFlowStarts.Pure := by
  intro l o hl hw hlo hwo
  refine Ev.rounds (g := fun k => laws_FnExactFlowStarts.f k l o) ?_
  simp only [laws_FnExactFlowStarts.f]
  by_cases hs0 : (o.length : Int) > 1048576
  · simp only [if_pos hs0]
    exact Ev.now _
  simp only [if_neg hs0, szFlowJob l 1048576 (by omega) (by omega) (by omega), Option.bind_some]
  by_cases hs : (1048576 : Int) - l.length < 0
  · simp only [if_pos hs]
    exact Ev.now _
  · simp only [if_neg hs]
    have h0 : l.length ≤ 1048576 := by omega
    have ho : o.length ≤ 1048576 := by omega
    have hm : (l.map cvFlowJob).length ≤ 1048576 := by simpa using h0
    obtain ⟨r, h1, h2, hr, hy⟩ := both_FlowStarts (l.map cvFlowJob) o hm ho
    have t0 := totSS_nn r.1
    have t1 := totSS_le r.1 hy
    have e0 : ¬ (1 + totSS r.1 < 0) := by omega
    have hq : Ev (fun k => laws_eqInt64SS.f k r.1 r.1) true := eqInt64SS _ (by omega) (fun x hx => by have := hy x hx; omega)
    refine Ev.bind (toFlowJobS l h0) ?_
    refine Ev.bind (toInt64S o ho) ?_
    refine Ev.bind h1 ?_
    refine Ev.bind (toFlowJobS l h0) ?_
    refine Ev.bind (toInt64S o ho) ?_
    refine Ev.bind h2 ?_
    refine Ev.bind hq ?_
    simp only [if_true, bne_self_eq_false]
    refine Ev.step (fun k => by rw [laws_FnExactFlowStarts.j0]) ?_
    simp only [Bool.false_eq_true, if_false]
    refine Ev.bind (toFlowJobS l h0) ?_
    refine Ev.bind (eqFlowJobS _ (by omega)) ?_
    simp only [if_true]
    refine Ev.bind (toInt64S o ho) ?_
    refine Ev.bind (eqInt64S o (by omega)) ?_
    simp only [if_true]
    refine Ev.bind (markFlowJobS _ 1 (by omega) (by omega) (by omega)) ?_
    refine Ev.bind (markInt64S _ _ (by omega) (by omega) (by omega)) ?_
    simp only [if_neg (show ¬ (1 + 2 * ((l.map cvFlowJob).length : Int) + (o.length : Int) < 0) by omega)]
    refine Ev.bind hq ?_
    simp only [if_true, bne_self_eq_false]
    refine Ev.step (fun k => by rw [laws_FnExactFlowStarts.j1]) ?_
    simp only [Bool.false_eq_true, if_false]
    refine Ev.bind (markInt64SS _ 1 (by omega) (by omega) (by omega)) ?_
    refine Ev.bind (heldInt64SS _ 1 (by omega) (by omega) (by omega)) ?_
    simp only [if_neg e0, if_true]
    refine Ev.bind (toFlowJobS l h0) ?_
    refine Ev.bind (toInt64S o ho) ?_
    refine Ev.bind h2 ?_
    refine Ev.bind hq ?_
    simp only [if_true, bne_self_eq_false]
    refine Ev.step (fun k => by rw [laws_FnExactFlowStarts.j2]) ?_
    simp only [Bool.false_eq_true, if_false]
    refine Ev.bind (heldInt64SS _ 1 (by omega) (by omega) (by omega)) ?_
    simp only [if_neg e0, if_true]
    exact Ev.now _

end Go.Proofs.Ytcieonfpmchdkaa.Pure
