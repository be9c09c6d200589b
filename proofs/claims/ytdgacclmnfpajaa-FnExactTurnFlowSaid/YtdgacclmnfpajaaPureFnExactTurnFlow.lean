/- The pure statement of law FnExactTurnFlow: what the printed functions compute answers true at every input. No condition. -/
import Derived.Test.YtdgacclmnfpajaaPFnExactTurnFlowx5
set_option linter.unusedVariables false
set_option linter.unusedSimpArgs false
namespace Go.Proofs.Ytdgacclmnfpajaa.Pure
open Go.RowKit Go.Proofs.Ytdgacclmnfpajaa.PFnExactTurnFlow Go.Proofs.YtdgacclmnfpajaaW.PrintWords Go.Proofs.YtdgacclmnfpajaaW.PrintLast Go.Proofs.YtdgacclmnfpajaaW.PrintMore


/-! #### Numbers and rounds -/
theorem w64 {x : Int} (h1 : -9223372036854775808 ≤ x) (h2 : x ≤ 9223372036854775807) : wrap64 x = x := by
  unfold wrap64
  omega
theorem wf64 {x : Int} (h : (Lit.int .i64 x).wf = true) : -9223372036854775808 ≤ x ∧ x ≤ 9223372036854775807 := by
  simp only [Lit.wf, IntKind.min, IntKind.max, IntKind.signed, IntKind.bits, Bool.and_eq_true, decide_eq_true_eq, if_true] at h
  omega
theorem ev_of {α : Type} {g : Nat → Option α} {r : α} (h : ∀ k, g k = some r) : Ev g r := ⟨0, fun k _ => h k⟩
theorem ev_eq {α : Type} {g : Nat → Option α} {r r' : α} (h : Ev g r) (e : r = r') : Ev g r' := e ▸ h
/-- A loop over a list: what lies behind, what lies ahead. -/
theorem loop_list {α : Type} (l : List α) (Q : List α → List α → Prop) (h0 : Q l []) (hs : ∀ p x s, l = p ++ x :: s → Q (p ++ [x]) s → Q p (x :: s)) : Q [] l := by
  have h : ∀ s p, l = p ++ s → Q p s := by
    intro s
    induction s with
    | nil => intro p hp; rw [List.append_nil] at hp; rw [← hp]; exact h0
    | cons x s ih => intro p hp; exact hs p x s hp (ih (p ++ [x]) (by simp [hp]))
  exact h l [] rfl
theorem mid_lt {α : Type} {l p s : List α} {x : α} (h : l = p ++ x :: s) : (p.length : Int) < (l.length : Int) := by
  rw [h, List.length_append, List.length_cons]; omega
theorem mid_next {α : Type} {l p s : List α} {x : α} (h : l = p ++ x :: s) (hl : l.length ≤ 9223372036854775807) : wrap64 ((p.length : Int) + 1) = ((p ++ [x]).length : Int) := by
  have := mid_lt h
  rw [w64 (by omega) (by omega), List.length_append]; simp
theorem mid_get {α : Type} {l p s : List α} {x : α} (h : l = p ++ x :: s) (z : α) : l.getD (p.length : Int).toNat z = x := by
  rw [h]; simp
theorem get_mid {α : Type} (p s : List α) (x z : α) : (p ++ x :: s).getD (p.length : Int).toNat z = x := by simp
theorem nat_nn (n : Nat) : (0 : Int) ≤ (n : Int) := by omega
theorem nlt_self {α : Type} (l : List α) : ¬ ((l.length : Int) < (l.length : Int)) := by omega
theorem set_mid {α : Type} (p s : List α) (x y : α) : (p ++ x :: s).set ((p.length : Int).toNat) y = p ++ y :: s := by
  rw [Int.toNat_natCast, List.set_append_right _ _ (Nat.le_refl _)]; simp
theorem nil_or_snoc {α : Type} (p : List α) : p = [] ∨ ∃ q y, p = q ++ [y] := by
  rcases List.eq_nil_or_concat p with h | ⟨q, y, h⟩
  · exact .inl h
  · exact .inr ⟨q, y, by rw [h, List.concat_eq_append]⟩
theorem loop_all {α : Type} (l : List α) (Q : List α → List α → Prop) (h0 : Q l []) (hs : ∀ p x s, l = p ++ x :: s → Q (p ++ [x]) s → Q p (x :: s)) : ∀ s p, l = p ++ s → Q p s := by
  intro s
  induction s with
  | nil => intro p hp; rw [List.append_nil] at hp; rw [← hp]; exact h0
  | cons x s ih => intro p hp; exact hs p x s hp (ih (p ++ [x]) (by simp [hp]))
theorem szFlowJob (l : List S87) (a : Int) (ha : 0 ≤ a) (hb : a ≤ 1048576) (h : l.length ≤ 9000000000000000000) : laws_szFlowJobS.f l a = some (if a - l.length < 0 then (-1 : Int) else a - l.length) := by
  unfold laws_szFlowJobS.f
  rw [w64 (by omega) (by omega)]
  split <;> rfl
def cvFlowJob (x : S87) : S85 := ⟨x.f0, x.f1⟩
theorem toFlowJobS (l : List S87) (h : l.length ≤ 1048576) : Ev (fun k => laws_toFlowJobS.f k l) (l.map cvFlowJob) := by
  have H := loop_list l (fun p s => ∀ (a t : List S85), a.length = p.length → t.length = s.length → Ev (fun k => laws_toFlowJobS.l0 k l (a ++ t) (p.length : Int)) (a ++ s.map cvFlowJob)) ?_ ?_
  · have := H [] (List.replicate l.length z85) rfl (by simp)
    simp only [laws_toFlowJobS.f, Int.toNat_natCast, if_pos (nat_nn l.length)]
    rw [show (fun k => if l.length ≤ _ then _ else _) = (fun k => laws_toFlowJobS.l0 k l (List.replicate l.length z85) 0) from funext fun k => if_pos (by omega)]
    simpa using this
  · intro a t ha ht
    refine Ev.step (fun k => by rw [laws_toFlowJobS.l0]) ?_
    simp only [if_neg (nlt_self l)]
    have : t = [] := List.eq_nil_of_length_eq_zero (by simpa using ht)
    subst this
    exact Ev.now _
  · intro p x s he ih a t ha ht
    obtain ⟨y, t, rfl⟩ : ∃ y t', t = y :: t' := by cases t with | nil => simp at ht | cons y t => exact ⟨y, t, rfl⟩
    refine Ev.step (fun k => by rw [laws_toFlowJobS.l0]) ?_
    have e : ((p.length : Int) < ((a ++ y :: t).length : Int)) := by simp; omega
    have e2 := set_mid a t y (cvFlowJob x)
    rw [ha] at e2
    simp only [if_pos (mid_lt he), if_pos (nat_nn p.length), laws_toFlowJob.f, Option.bind_some, if_pos e, mid_next he (by omega), rd_T87, mid_get he]
    have := ih (a ++ [cvFlowJob x]) t (by simp [ha]) (by simpa using ht)
    simp only [cvFlowJob, List.append_assoc, List.singleton_append, List.map_cons] at this e2 ⊢
    rw [e2]
    exact this
theorem eqFlowJobS (l : List S85) (h : l.length ≤ 9000000000000000000) : Ev (fun k => laws_eqFlowJobS.f k l l) true := by
  simp only [laws_eqFlowJobS.f, if_true]
  refine loop_list l (fun p s => Ev (fun k => laws_eqFlowJobS.l0 k l l (p.length : Int)) true) ?_ ?_
  · refine Ev.step (fun k => by rw [laws_eqFlowJobS.l0]) ?_
    simp only [if_neg (nlt_self l)]
    exact Ev.now _
  · intro p x s he ih
    refine Ev.step (fun k => by rw [laws_eqFlowJobS.l0]) ?_
    simp only [if_pos (mid_lt he), if_pos (nat_nn p.length), laws_eqFlowJob.f, if_true, Option.bind_some, mid_next he (by omega)]
    exact ih
/-- Structs that hold the numbers from m on. -/
def numsFlowJob (m : Int) : Nat → List S85
  | 0 => []
  | n + 1 => ⟨m, m + 1⟩ :: numsFlowJob (m + 2) n
theorem numsFlowJob_length (n : Nat) : ∀ m, (numsFlowJob m n).length = n := by
  induction n with
  | zero => intro m; rfl
  | succ n ih => intro m; simp [numsFlowJob, ih]
theorem markFlowJobS (l : List S85) (m : Int) (hm : 0 ≤ m) (hb : m ≤ 1000000000000) (h : l.length ≤ 9000000000000) : Ev (fun k => laws_markFlowJobS.f k l m) (m + 2 * (l.length : Int), numsFlowJob m l.length) := by
  have H : ∀ (t a : List S85) (m : Int), 0 ≤ m → m + 2 * (t.length : Int) ≤ 1000000000000000 → a.length + t.length ≤ 9000000000000 → Ev (fun k => laws_markFlowJobS.l0 k (a ++ t) m (a.length : Int)) (m + 2 * (t.length : Int), a ++ numsFlowJob m t.length) := by
    intro t
    induction t with
    | nil =>
      intro a m hm hb ha
      refine Ev.step (fun k => by rw [laws_markFlowJobS.l0]) ?_
      simp only [List.append_nil, if_neg (nlt_self a), List.length_nil, numsFlowJob]
      exact ev_eq (Ev.now _) (by simp)
    | cons x t ih =>
      intro a m hm hb ha
      simp only [List.length_cons] at hb ha
      refine Ev.step (fun k => by rw [laws_markFlowJobS.l0]) ?_
      have e : ((a.length : Int) < ((a ++ x :: t).length : Int)) := by simp; omega
      simp only [if_pos e, if_pos (nat_nn a.length), set_mid, Option.bind_some, rd_T85, get_mid, w64 (x := m + 1) (by omega) (by omega), w64 (x := m + 2) (by omega) (by omega), (show m + 1 + 1 = m + 2 from by omega), w64 (x := (a.length : Int) + 1) (by omega) (by omega)]
      have := ih (a ++ [⟨m, m + 1⟩]) (m + 2) (by omega) (by omega) (by simp; omega)
      simp only [List.append_assoc, List.singleton_append, List.length_append, List.length_singleton] at this
      rw [show ((a.length + 1 : Nat) : Int) = (a.length : Int) + 1 by omega] at this
      refine ev_eq this ?_
      simp only [List.length_cons, numsFlowJob, Prod.mk.injEq, and_true]
      omega
  have := H l [] m hm (by omega) (by simpa using h)
  simpa [laws_markFlowJobS.f] using this
theorem heldFlowJobS (n : Nat) (m : Int) (hm : 0 ≤ m) (hb : m + 2 * (n : Int) ≤ 1000000000000000) : Ev (fun k => laws_heldFlowJobS.f k (numsFlowJob m n) m) (m + 2 * (n : Int)) := by
  have H := loop_list (numsFlowJob m n) (fun p s => ∀ q : Int, 0 ≤ q → q + 2 * (s.length : Int) ≤ 1000000000000000 → s = numsFlowJob q s.length → Ev (fun k => laws_heldFlowJobS.l0 k (numsFlowJob m n) q (p.length : Int)) (q + 2 * (s.length : Int))) ?_ ?_
  · have := H m hm (by rw [numsFlowJob_length]; omega) (by rw [numsFlowJob_length])
    rw [numsFlowJob_length] at this
    exact this
  · intro q h0 h1 hs
    refine Ev.step (fun k => by rw [laws_heldFlowJobS.l0]) ?_
    simp only [if_neg (nlt_self (numsFlowJob m n))]
    exact ev_eq (Ev.now _) (by simp)
  · intro p x s he ih m' h0 h1 hs
    simp only [List.length_cons] at h1 hs
    rw [numsFlowJob] at hs
    obtain ⟨rfl, hs2⟩ := List.cons.inj hs
    refine Ev.step (fun k => by rw [laws_heldFlowJobS.l0]) ?_
    have hl : (numsFlowJob m n).length ≤ 1000000000000000 := by rw [numsFlowJob_length]; omega
    simp only [if_pos (mid_lt he), if_pos (nat_nn p.length), rd_T85, mid_get he, if_true, mid_next he (by omega), w64 (x := m' + 1) (by omega) (by omega), w64 (x := m' + 2) (by omega) (by omega), (show m' + 1 + 1 = m' + 2 from by omega)]
    refine ev_eq (ih (m' + 2) (by omega) (by omega) hs2) ?_
    simp only [List.length_cons]
    omega
theorem toInt64S (l : List Int) (h : l.length ≤ 1048576) : Ev (fun k => laws_toInt64S.f k l) l := by
  have H := loop_list l (fun p s => ∀ (a t : List Int), a.length = p.length → t.length = s.length → Ev (fun k => laws_toInt64S.l0 k l (a ++ t) (p.length : Int)) (a ++ s)) ?_ ?_
  · have := H [] (List.replicate l.length 0) rfl (by simp)
    simp only [laws_toInt64S.f, Int.toNat_natCast, if_pos (nat_nn l.length), if_pos (show l.length ≤ 35184372088832 by omega)]
    simpa using this
  · intro a t ha ht
    refine Ev.step (fun k => by rw [laws_toInt64S.l0]) ?_
    simp only [if_neg (nlt_self l)]
    have : t = [] := List.eq_nil_of_length_eq_zero (by simpa using ht)
    subst this
    exact Ev.now _
  · intro p x s he ih a t ha ht
    obtain ⟨y, t, rfl⟩ : ∃ y t', t = y :: t' := by cases t with | nil => simp at ht | cons y t => exact ⟨y, t, rfl⟩
    refine Ev.step (fun k => by rw [laws_toInt64S.l0]) ?_
    have e : ((p.length : Int) < ((a ++ y :: t).length : Int)) := by simp; omega
    have e2 := set_mid a t y x
    rw [ha] at e2
    have hx : rd l (p.length : Int) = x := mid_get he 0
    simp only [if_pos (mid_lt he), if_pos (nat_nn p.length), if_pos e, mid_next he (by omega), hx]
    have := ih (a ++ [x]) t (by simp [ha]) (by simpa using ht)
    simp only [List.append_assoc, List.singleton_append] at this e2 ⊢
    rw [e2]
    exact this
theorem eqInt64S (l : List Int) (h : l.length ≤ 9000000000000000000) : Ev (fun k => laws_eqInt64S.f k l l) true := by
  simp only [laws_eqInt64S.f, if_true]
  refine loop_list l (fun p s => Ev (fun k => laws_eqInt64S.l0 k l l (p.length : Int)) true) ?_ ?_
  · refine Ev.step (fun k => by rw [laws_eqInt64S.l0]) ?_
    simp only [if_neg (nlt_self l)]
    exact Ev.now _
  · intro p x s he ih
    refine Ev.step (fun k => by rw [laws_eqInt64S.l0]) ?_
    simp only [if_pos (mid_lt he), if_pos (nat_nn p.length), if_true, mid_next he (by omega)]
    exact ih
/-- The numbers from m on. -/
def numsI (m : Int) : Nat → List Int
  | 0 => []
  | n + 1 => m :: numsI (m + 1) n
theorem numsI_length (n : Nat) : ∀ m, (numsI m n).length = n := by
  induction n with
  | zero => intro m; rfl
  | succ n ih => intro m; simp [numsI, ih]
theorem markInt64S (l : List Int) (m : Int) (hm : 0 ≤ m) (hb : m ≤ 1000000000000) (h : l.length ≤ 9000000000000) : Ev (fun k => laws_markInt64S.f k l m) (m + (l.length : Int), numsI m l.length) := by
  have H : ∀ (t a : List Int) (m : Int), 0 ≤ m → m + (t.length : Int) ≤ 1000000000000000 → a.length + t.length ≤ 9000000000000 → Ev (fun k => laws_markInt64S.l0 k (a ++ t) m (a.length : Int)) (m + (t.length : Int), a ++ numsI m t.length) := by
    intro t
    induction t with
    | nil =>
      intro a m hm hb ha
      refine Ev.step (fun k => by rw [laws_markInt64S.l0]) ?_
      simp only [List.append_nil, if_neg (nlt_self a), List.length_nil, numsI]
      exact ev_eq (Ev.now _) (by simp)
    | cons x t ih =>
      intro a m hm hb ha
      simp only [List.length_cons] at hb ha
      refine Ev.step (fun k => by rw [laws_markInt64S.l0]) ?_
      have e : ((a.length : Int) < ((a ++ x :: t).length : Int)) := by simp; omega
      simp only [if_pos e, if_pos (nat_nn a.length), set_mid, w64 (x := m + 1) (by omega) (by omega), w64 (x := (a.length : Int) + 1) (by omega) (by omega)]
      have := ih (a ++ [m]) (m + 1) (by omega) (by omega) (by simp; omega)
      simp only [List.append_assoc, List.singleton_append, List.length_append, List.length_singleton] at this
      rw [show ((a.length + 1 : Nat) : Int) = (a.length : Int) + 1 by omega] at this
      refine ev_eq this ?_
      simp only [List.length_cons, numsI, Prod.mk.injEq, and_true]
      omega
  have := H l [] m hm (by omega) (by simpa using h)
  simpa [laws_markInt64S.f] using this
theorem heldInt64S (n : Nat) (m : Int) (hm : 0 ≤ m) (hb : m + (n : Int) ≤ 1000000000000000) : Ev (fun k => laws_heldInt64S.f k (numsI m n) m) (m + (n : Int)) := by
  have H := loop_list (numsI m n) (fun p s => ∀ q : Int, 0 ≤ q → q + (s.length : Int) ≤ 1000000000000000 → s = numsI q s.length → Ev (fun k => laws_heldInt64S.l0 k (numsI m n) q (p.length : Int)) (q + (s.length : Int))) ?_ ?_
  · have := H m hm (by rw [numsI_length]; omega) (by rw [numsI_length])
    rw [numsI_length] at this
    exact this
  · intro q h0 h1 hs
    refine Ev.step (fun k => by rw [laws_heldInt64S.l0]) ?_
    simp only [if_neg (nlt_self (numsI m n))]
    exact ev_eq (Ev.now _) (by simp)
  · intro p x s he ih q h0 h1 hs
    simp only [List.length_cons] at h1 hs
    rw [numsI] at hs
    obtain ⟨rfl, hs⟩ := List.cons.inj hs
    refine Ev.step (fun k => by rw [laws_heldInt64S.l0]) ?_
    have hl : (numsI m n).length ≤ 1000000000000000 := by rw [numsI_length]; omega
    have hx : rd (numsI m n) (p.length : Int) = x := mid_get he 0
    simp only [if_pos (mid_lt he), if_pos (nat_nn p.length), hx, if_true, mid_next he (by omega), w64 (x := x + 1) (by omega) (by omega)]
    refine ev_eq (ih (x + 1) (by omega) (by omega) hs) ?_
    simp only [List.length_cons]
    omega
def inR (a lo hi : Int) : Bool := decide (lo ≤ a) && decide (a ≤ hi)
theorem inR_iff {a lo hi : Int} : inR a lo hi = true ↔ lo ≤ a ∧ a ≤ hi := by simp [inR]
theorem l01In (a lo hi : Int) : spec_l01In.f a lo hi = some (inR a lo hi) := by
  unfold spec_l01In.f inR
  split
  · rename_i h; rw [decide_eq_true (show lo ≤ a from h), Bool.true_and]
  · rename_i h; rw [decide_eq_false (show ¬ lo ≤ a from h), Bool.false_and]
theorem inRange (a lo hi : Int) : impl_inRange.f a lo hi = some (inR a lo hi) := by
  unfold impl_inRange.f inR
  split
  · rename_i h; rw [decide_eq_true (show lo ≤ a from h), Bool.true_and]
  · rename_i h; rw [decide_eq_false (show ¬ lo ≤ a from h), Bool.false_and]
def okFlow (x : S85) : Bool := inR x.f0 0 100000 && inR x.f1 0 100000
theorem spec_AreFlowJobs (l : List S85) (h : l.length ≤ 1048576) : Ev (fun k => spec_AreFlowJobs.f k l) (l.all okFlow && decide (l.length ≤ 7)) := by
  refine loop_list l (fun p s => Ev (fun k => spec_AreFlowJobs.l0 k l (p.length : Int)) (s.all okFlow && decide (l.length ≤ 7))) ?_ ?_
  · refine Ev.step (fun k => by rw [spec_AreFlowJobs.l0]) ?_
    simp only [if_neg (nlt_self l), List.all_nil, Bool.true_and]
    exact ev_eq (Ev.now _) (decide_eq_decide.2 (by omega))
  · intro p x s he ih
    refine Ev.step (fun k => by rw [spec_AreFlowJobs.l0]) ?_
    simp only [if_pos (mid_lt he), if_pos (nat_nn p.length), mid_next he (by omega), rd_T85, mid_get he, l01In, Option.bind_some, List.all_cons]
    cases h0 : inR x.f0 0 100000 <;> cases h1 : inR x.f1 0 100000 <;> simp [okFlow, h0, h1] <;> first | exact Ev.now _ | simpa [mid_next he (by omega)] using ih
theorem impl_AreFlowJobs_1_ok (x : S85) : impl_AreFlowJobs_1.f x.f0 x.f1 = some (!(okFlow x)) := by
  simp only [impl_AreFlowJobs_1.f, impl_isMinutes.f, inRange, Option.bind_some, okFlow]
  cases inR x.f0 0 100000 <;> cases inR x.f1 0 100000 <;> rfl
theorem contains_impl_AreFlowJobs_1 (l : List S85) (h : l.length ≤ 1048576) : Ev (fun k => slices_ContainsFunc_at_impl_AreFlowJobs_1.f k l) (!(l.all okFlow)) := by
  have H := loop_list l (fun p s => ∃ r, Ev (fun k => slices_IndexFunc_at_impl_AreFlowJobs_1.l0 k l (l.length : Int) (p.length : Int)) r ∧ decide (r ≥ 0) = !(s.all okFlow)) ?_ ?_
  · obtain ⟨r, hr, e⟩ := H
    rw [← e]
    exact Ev.bind hr (Ev.now _)
  · refine ⟨-1, Ev.step (fun k => by rw [slices_IndexFunc_at_impl_AreFlowJobs_1.l0]) ?_, by simp⟩
    simp only [if_neg (nlt_self l)]
    exact Ev.now _
  · rintro p x s he ⟨r, ih, e⟩
    by_cases hx : okFlow x = true
    · refine ⟨r, Ev.step (fun k => by rw [slices_IndexFunc_at_impl_AreFlowJobs_1.l0]) ?_, by rw [e]; simp [hx]⟩
      simp only [if_pos (mid_lt he), if_pos (nat_nn p.length), rd_T85, mid_get he, impl_AreFlowJobs_1_ok, hx, Option.bind_some, mid_next he (by omega)]
      exact ih
    · refine ⟨(p.length : Int), Ev.step (fun k => by rw [slices_IndexFunc_at_impl_AreFlowJobs_1.l0]) ?_, by simp [hx]⟩
      simp only [if_pos (mid_lt he), if_pos (nat_nn p.length), rd_T85, mid_get he, impl_AreFlowJobs_1_ok, Bool.eq_false_iff.2 hx, Option.bind_some]
      exact Ev.now _
theorem impl_AreFlowJobs (l : List S85) (h : l.length ≤ 1048576) : Ev (fun k => impl_AreFlowJobs.f k l) (l.all okFlow && decide (l.length ≤ 7)) := by
  simp only [impl_AreFlowJobs.f]
  by_cases hl : (l.length : Int) ≤ 7
  · simp only [if_pos hl]
    exact ev_eq (Ev.bind (contains_impl_AreFlowJobs_1 l h) (Ev.now _)) (by simp [show l.length ≤ 7 by omega])
  · simp only [if_neg hl]
    exact ev_eq (Ev.now _) (by simp [show ¬ l.length ≤ 7 by omega])

/-- Each number is in the range, and none comes twice. -/
def ordF (n : Int) (seen : List Int) : List Int → Bool
  | [] => true
  | x :: s => inR x 0 (n - 1) && (!(decide (x ∈ seen)) && ordF n (seen ++ [x]) s)
def orderB (l : List Int) : Bool := ordF (l.length : Int) [] l && decide (l.length ≤ 64)
theorem spec_has (l : List Int) (y : Int) (h : l.length ≤ 9000000000000000000) : Ev (fun k => spec_l01Has.f k l y) (decide (y ∈ l)) := by
  refine loop_list l (fun p s => Ev (fun k => spec_l01Has.l0 k l y (p.length : Int)) (decide (y ∈ s))) ?_ ?_
  · refine Ev.step (fun k => by rw [spec_l01Has.l0]) ?_
    simp only [if_neg (nlt_self l)]
    exact ev_eq (Ev.now _) (by simp)
  · intro p x s he ih
    refine Ev.step (fun k => by rw [spec_l01Has.l0]) ?_
    have hx : rd l (p.length : Int) = x := mid_get he 0
    simp only [if_pos (mid_lt he), if_pos (nat_nn p.length), hx, mid_next he (by omega)]
    by_cases e : x = y
    · simp only [if_pos e]
      exact ev_eq (Ev.now _) (by simp [e])
    · simp only [if_neg e]
      exact ev_eq ih (by simp [show ¬ y = x from fun h => e h.symm])
theorem spec_IsOrder (l : List Int) (h : l.length ≤ 1048576) : Ev (fun k => spec_IsOrder.f k l) (orderB l) := by
  refine loop_list l (fun p s => Ev (fun k => spec_IsOrder.l0 k l (p.length : Int)) (ordF (l.length : Int) p s && decide (l.length ≤ 64))) ?_ ?_
  · refine Ev.step (fun k => by rw [spec_IsOrder.l0]) ?_
    simp only [if_neg (nlt_self l), ordF, Bool.true_and]
    exact ev_eq (Ev.now _) (decide_eq_decide.2 (by omega))
  · intro p x s he ih
    refine Ev.step (fun k => by rw [spec_IsOrder.l0]) ?_
    have hx : rd l (p.length : Int) = x := mid_get he 0
    have hp := mid_lt he
    have ht : l.take ((p.length : Int).toNat) = p := by rw [he, Int.toNat_natCast]; simp
    simp only [if_pos hp, if_pos (nat_nn p.length), hx, w64 (x := (l.length : Int) - 1) (by omega) (by omega), l01In, Option.bind_some, if_pos (show (p.length : Int) ≤ (l.length : Int) by omega), ht, mid_next he (by omega), ordF]
    cases inR x 0 ((l.length : Int) - 1)
    · simp only [Bool.false_eq_true, if_false, Bool.false_and]
      exact Ev.now _
    · simp only [if_true, Bool.true_and]
      refine Ev.bind (spec_has p x (by omega)) ?_
      cases decide (x ∈ p)
      · simp only [Bool.false_eq_true, if_false, Bool.not_false, Bool.true_and]
        exact ih
      · simp only [if_true, Bool.not_true, Bool.false_and]
        exact Ev.now _
theorem impl_IsOrder (l : List Int) (h : l.length ≤ 1048576) : Ev (fun k => impl_IsOrder.f k l) (orderB l) := by
  simp only [impl_IsOrder.f]
  by_cases hl : (l.length : Int) > 64
  · simp only [if_pos hl]
    exact ev_eq (Ev.now _) (by simp [orderB, show ¬ l.length ≤ 64 by omega])
  · simp only [if_neg hl, if_pos (nat_nn l.length), Int.toNat_natCast, if_pos (show l.length ≤ 281474976710656 by omega)]
    refine ev_eq (r := ordF (l.length : Int) [] l) ?_ (by simp [orderB, show l.length ≤ 64 by omega])
    refine loop_list l (fun p s => ∀ b : List Bool, b.length = l.length → (∀ v : Nat, v < l.length → b.getD v false = decide ((v : Int) ∈ p)) → Ev (fun k => impl_IsOrder.l0 k l b l (l.length : Int) (p.length : Int)) (ordF (l.length : Int) p s)) ?_ ?_ (List.replicate l.length false) (by simp) (by intro v hv; simp [List.getD_eq_getElem?_getD, List.getElem?_replicate, hv])
    · intro b hb hv
      refine Ev.step (fun k => by rw [impl_IsOrder.l0]) ?_
      simp only [if_neg (nlt_self l), ordF]
      exact Ev.now _
    · intro p x s he ih b hb hv
      refine Ev.step (fun k => by rw [impl_IsOrder.l0]) ?_
      have hx : rd l (p.length : Int) = x := mid_get he 0
      have hp := mid_lt he
      simp only [if_pos hp, if_pos (nat_nn p.length), hx, impl_length_int64.f, w64 (x := (l.length : Int) - 1) (by omega) (by omega), inRange, Option.bind_some, mid_next he (by omega), ordF]
      cases hr : inR x 0 ((l.length : Int) - 1)
      · simp only [Bool.false_eq_true, if_false, Bool.false_and]
        exact Ev.now _
      · obtain ⟨h0, h1⟩ := inR_iff.1 hr
        have hg : rdOf false b x = decide (x ∈ p) := by
          have := hv x.toNat (by omega)
          rw [show ((x.toNat : Nat) : Int) = x by omega] at this
          rw [← this]
          rfl
        simp only [if_true, Bool.true_and, if_pos h0, if_pos (show x < (b.length : Int) by omega), hg]
        cases hd : decide (x ∈ p)
        · simp only [Bool.false_eq_true, if_false, Bool.not_false, Bool.true_and]
          refine ih (b.set x.toNat true) (by simpa using hb) (fun v hv' => ?_)
          have := hv v hv'
          simp only [List.getD_eq_getElem?_getD, List.getElem?_set, hb] at this ⊢
          by_cases e : x.toNat = v
          · simp [e, hv', show (v : Int) = x by omega]
          · simp only [if_neg e, List.mem_append, List.mem_singleton, this]
            simp [show ¬ (v : Int) = x by omega]
        · simp only [if_true, Bool.not_true, Bool.false_and]
          exact Ev.now _
theorem ordF_mem {n : Int} : ∀ (s seen : List Int), ordF n seen s = true → ∀ x ∈ s, 0 ≤ x ∧ x < n := by
  intro s
  induction s with
  | nil => intro seen _ x hx; cases hx
  | cons y s ih =>
    intro seen h x hx
    simp only [ordF, Bool.and_eq_true, inR_iff] at h
    rcases List.mem_cons.1 hx with rfl | hx
    · omega
    · exact ih _ h.2.2 x hx
theorem orderB_mem {l : List Int} (h : orderB l = true) {x : Int} (hx : x ∈ l) : 0 ≤ x ∧ x < (l.length : Int) := by
  simp only [orderB, Bool.and_eq_true] at h
  exact ordF_mem _ _ h.1 x hx
def flowB (l : List S85) : Bool := l.all okFlow && decide (l.length ≤ 7)
def flowCode (l : List S85) (o : List Int) : Int := if flowB l = true then (if orderB o = true then (if (o.length : Int) = (l.length : Int) then 0 else 2) else 2) else 1
theorem spec_flowCode (l : List S85) (o : List Int) (h : l.length ≤ 1048576) (ho : o.length ≤ 1048576) : Ev (fun k => spec_l21Code.f k l o) (flowCode l o) := by
  simp only [spec_l21Code.f]
  refine Ev.bind (a := flowB l) (spec_AreFlowJobs l h) ?_
  cases h1 : flowB l
  · simp only [Bool.false_eq_true, if_false]
    exact ev_eq (Ev.now _) (by simp [flowCode, h1])
  · simp only [if_true]
    refine Ev.bind (spec_IsOrder o ho) ?_
    cases h2 : orderB o <;> simp only [Bool.false_eq_true, if_false, if_true]
    · exact ev_eq (Ev.now _) (by simp [flowCode, h1, h2])
    · by_cases h3 : (o.length : Int) = (l.length : Int)
      · simp only [if_pos h3]
        exact ev_eq (Ev.now _) (by simp only [flowCode, h1, h2, if_true, if_pos h3])
      · simp only [if_neg h3]
        exact ev_eq (Ev.now _) (by simp only [flowCode, h1, h2, if_true, if_neg h3])
theorem impl_flowCode (l : List S85) (o : List Int) (h : l.length ≤ 1048576) (ho : o.length ≤ 1048576) : Ev (fun k => impl_checkFlow.f k l o) (flowCode l o) := by
  simp only [impl_checkFlow.f]
  refine Ev.bind (a := flowB l) (impl_AreFlowJobs l h) ?_
  cases h1 : flowB l
  · simp only [Bool.false_eq_true, if_false]
    exact ev_eq (Ev.now _) (by simp [flowCode, h1])
  · simp only [if_true]
    refine Ev.bind (impl_IsOrder o ho) ?_
    cases h2 : orderB o <;> simp only [Bool.false_eq_true, if_false, if_true]
    · exact ev_eq (Ev.now _) (by simp [flowCode, h1, h2])
    · by_cases h3 : (o.length : Int) = (l.length : Int)
      · simp only [if_pos h3]
        exact ev_eq (Ev.now _) (by simp only [flowCode, h1, h2, if_true, if_pos h3])
      · simp only [if_neg h3]
        exact ev_eq (Ev.now _) (by simp only [flowCode, h1, h2, if_true, if_neg h3])
theorem flowCode_zero {l : List S85} {o : List Int} (h : flowCode l o = 0) : flowB l = true ∧ orderB o = true ∧ o.length = l.length ∧ l.length ≤ 7 := by
  unfold flowCode at h
  by_cases h1 : flowB l = true <;> by_cases h2 : orderB o = true <;> by_cases h3 : (o.length : Int) = (l.length : Int) <;> simp [h1, h2, h3] at h
  refine ⟨h1, h2, by omega, ?_⟩
  simp only [flowB, Bool.and_eq_true, decide_eq_true_eq] at h1
  exact h1.2
theorem both_flowCode {α : Type} (l : List S85) (o : List Int) (h : l.length ≤ 1048576) (ho : o.length ≤ 1048576) (g g' : Nat → Option α) (e : Int → α) (hg : flowCode l o = 0 → ∃ r, Ev g r ∧ Ev g' r) :
    ∃ r, Ev (fun k => (spec_l21Code.f k l o).bind fun c => if c = 0 then g k else some (e c)) r ∧ Ev (fun k => (impl_checkFlow.f k l o).bind fun c => if c = 0 then g' k else some (e c)) r := by
  by_cases hc : flowCode l o = 0
  · obtain ⟨r, h1, h2⟩ := hg hc
    refine ⟨r, Ev.bind (spec_flowCode l o h ho) ?_, Ev.bind (impl_flowCode l o h ho) ?_⟩ <;> simp only [if_pos hc]
    · exact h1
    · exact h2
  · refine ⟨e (flowCode l o), Ev.bind (spec_flowCode l o h ho) ?_, Ev.bind (impl_flowCode l o h ho) ?_⟩ <;> simp only [if_neg hc] <;> exact Ev.now _
theorem clone_ints (l : List Int) (h : l.length ≤ 1048576) : slices_Clone__int64_int64.f l = some l := by
  simp only [slices_Clone__int64_int64.f, Option.bind_some, List.length_nil, List.nil_append, if_pos (show 0 + l.length < 17592186044416 by omega)]
theorem rev_at (a m b : List Int) (x y : Int) : rd (a ++ x :: (m ++ y :: b)) ((a.length : Int) + (m.length : Int) + 1) = y := by
  have : (a ++ x :: (m ++ y :: b)) = (a ++ x :: m) ++ y :: b := by simp
  rw [this]
  have e : ((a.length : Int) + (m.length : Int) + 1) = ((a ++ x :: m).length : Int) := by simp; omega
  rw [e]
  exact get_mid _ _ _ 0
theorem rev_set (a m b : List Int) (x y : Int) : ((a ++ x :: (m ++ y :: b)).set ((a.length : Int)).toNat y).set (((a.length : Int) + (m.length : Int) + 1)).toNat x = (a ++ [y]) ++ (m ++ (x :: b)) := by
  rw [set_mid]
  have : (a ++ y :: (m ++ y :: b)) = (a ++ y :: m) ++ y :: b := by simp
  rw [this]
  have e : ((a.length : Int) + (m.length : Int) + 1) = ((a ++ y :: m).length : Int) := by simp; omega
  rw [e, set_mid]
  simp
theorem reverse_mid : ∀ (n : Nat) (m a b : List Int), m.length ≤ n → a.length = b.length → a.length + m.length + b.length ≤ 1048576 → Ev (fun k => slices_Reverse__int64_int64.l0 k (a ++ (m ++ b)) (a.length : Int) ((a.length : Int) + (m.length : Int) - 1)) (a ++ (m.reverse ++ b)) := by
  intro n
  induction n with
  | zero =>
    intro m a b hm hab hl
    have : m = [] := List.eq_nil_of_length_eq_zero (by omega)
    subst this
    refine Ev.step (fun k => by rw [slices_Reverse__int64_int64.l0]) ?_
    simp only [List.length_nil, if_neg (show ¬ ((a.length : Int) < (a.length : Int) + ((0 : Nat) : Int) - 1) by omega)]
    exact Ev.now _
  | succ n ih =>
    intro m a b hm hab hl
    rcases m with _ | ⟨x, m⟩
    · refine Ev.step (fun k => by rw [slices_Reverse__int64_int64.l0]) ?_
      simp only [List.length_nil, if_neg (show ¬ ((a.length : Int) < (a.length : Int) + ((0 : Nat) : Int) - 1) by omega)]
      exact Ev.now _
    · rcases nil_or_snoc m with rfl | ⟨m, y, rfl⟩
      · refine Ev.step (fun k => by rw [slices_Reverse__int64_int64.l0]) ?_
        simp only [List.length_singleton, if_neg (show ¬ ((a.length : Int) < (a.length : Int) + ((1 : Nat) : Int) - 1) by omega)]
        exact Ev.now _
      · simp only [List.length_cons, List.length_append, List.length_nil] at hm hl
        have := ih m (a ++ [y]) (x :: b) (by omega) (by simp; omega) (by simp; omega)
        refine Ev.step (fun k => by rw [slices_Reverse__int64_int64.l0]) ?_
        have e1 : (a.length : Int) + ((x :: (m ++ [y])).length : Int) - 1 = (a.length : Int) + (m.length : Int) + 1 := by simp; omega
        have e2 : a ++ (x :: (m ++ [y]) ++ b) = a ++ x :: (m ++ y :: b) := by simp
        have e3 : ((a ++ x :: (m ++ y :: b)).length : Int) = (a.length : Int) + (m.length : Int) + (b.length : Int) + 2 := by simp; omega
        have e4 : rd (a ++ x :: (m ++ y :: b)) (a.length : Int) = x := get_mid _ _ _ 0
        rw [e1, e2]
        simp only [e3, e4, rev_at, rev_set, if_pos (show (a.length : Int) < (a.length : Int) + (m.length : Int) + 1 by omega), if_pos (show (0 : Int) ≤ (a.length : Int) + (m.length : Int) + 1 by omega), if_pos (show (a.length : Int) + (m.length : Int) + 1 < (a.length : Int) + (m.length : Int) + (b.length : Int) + 2 by omega), if_pos (nat_nn a.length), if_pos (show (a.length : Int) < (a.length : Int) + (m.length : Int) + (b.length : Int) + 2 by omega), w64 (x := (a.length : Int) + 1) (by omega) (by omega), w64 (x := (a.length : Int) + (m.length : Int) + 1 - 1) (by omega) (by omega)]
        simp only [List.length_append, List.length_singleton] at this
        rw [show (((a.length + 1 : Nat) : Int) + (m.length : Int) - 1) = (a.length : Int) + (m.length : Int) + 1 - 1 by omega, show ((a.length + 1 : Nat) : Int) = (a.length : Int) + 1 by omega] at this
        refine ev_eq this ?_
        simp
theorem reverse_ints (l : List Int) (h : l.length ≤ 1048576) : Ev (fun k => slices_Reverse__int64_int64.f k l) l.reverse := by
  have := reverse_mid l.length l [] [] (Nat.le_refl _) rfl (by simpa using h)
  simp only [slices_Reverse__int64_int64.f, w64 (x := (l.length : Int) - 1) (by omega) (by omega)]
  simpa using this
def turnJ (x : S85) : S85 := ⟨x.f1, x.f0⟩
theorem spec_turn (l : List S85) (o : List Int) (hol : o.length = l.length) (h : l.length ≤ 1048576) : Ev (fun k => spec_TurnFlow.l0 k l o [] [] 0) (l.map turnJ, o.reverse, 0) := by
  have H := loop_list l (fun p s => ∀ (x8 : List S85) (q t : List Int), o = t ++ q → q.length = p.length → x8.length = p.length → Ev (fun k => spec_TurnFlow.l0 k l o x8 q.reverse (p.length : Int)) (x8 ++ s.map turnJ, o.reverse, 0)) ?_ ?_ [] [] o (by simp) rfl rfl
  · simpa using H
  · intro x8 q t ho hq h8
    refine Ev.step (fun k => by rw [spec_TurnFlow.l0]) ?_
    simp only [if_neg (nlt_self l), List.map_nil, List.append_nil]
    have : t = [] := List.eq_nil_of_length_eq_zero (by have := congrArg List.length ho; simp at this; omega)
    subst this
    simp only [List.nil_append] at ho
    rw [ho]
    exact Ev.now _
  · intro p x s he ih x8 q t ho hq h8
    have hp := mid_lt he
    have hlen := congrArg List.length ho
    simp only [List.length_append] at hlen
    rcases nil_or_snoc t with rfl | ⟨t, y, rfl⟩
    · simp at hlen; omega
    · simp only [List.length_append, List.length_singleton] at hlen
      have e1 : wrap64 (wrap64 ((o.length : Int) - 1) - (p.length : Int)) = (t.length : Int) := by
        rw [w64 (x := (o.length : Int) - 1) (by omega) (by omega), w64 (by omega) (by omega)]; omega
      have e2 : rd o (t.length : Int) = y := mid_get (p := t) (s := q) (by simp [ho]) 0
      have := ih (x8 ++ [turnJ x]) (y :: q) t (by simp [ho]) (by simp [hq]) (by simp [h8])
      refine Ev.step (fun k => by rw [spec_TurnFlow.l0]) ?_
      simp only [if_pos hp, if_pos (nat_nn p.length), if_pos (show x8.length < 8796093022208 by omega), e1, if_pos (nat_nn t.length), if_pos (show (t.length : Int) < (o.length : Int) by omega), if_pos (show q.reverse.length < 17592186044416 by simp; omega), e2, rd_T85, mid_get he, mid_next he (by omega)]
      simpa [turnJ] using this
theorem impl_turn (l : List S85) (o : List Int) (ho : o.length ≤ 1048576) (h : l.length ≤ 1048576) : Ev (fun k => impl_TurnFlow.l0 k [] o l (l.length : Int) 0) (l.map turnJ, o.reverse, 0) := by
  have H := loop_list l (fun p s => ∀ (x8 : List S85), x8.length = p.length → Ev (fun k => impl_TurnFlow.l0 k x8 o l (l.length : Int) (p.length : Int)) (x8 ++ s.map turnJ, o.reverse, 0)) ?_ ?_ [] rfl
  · simpa using H
  · intro x8 h8
    refine Ev.step (fun k => by rw [impl_TurnFlow.l0]) ?_
    simp only [if_neg (nlt_self l), List.map_nil, List.append_nil]
    exact Ev.bind (reverse_ints o ho) (Ev.now _)
  · intro p x s he ih x8 h8
    have hp := mid_lt he
    have := ih (x8 ++ [turnJ x]) (by simp [h8])
    refine Ev.step (fun k => by rw [impl_TurnFlow.l0]) ?_
    simp only [if_pos hp, if_pos (nat_nn p.length), if_pos (show x8.length < 8796093022208 by omega), rd_T85, mid_get he, mid_next he (by omega)]
    simpa [turnJ] using this
def turnB (l : List S85) (o : List Int) : List S85 × List Int × Int := if flowCode l o = 0 then (l.map turnJ, o.reverse, 0) else ([], [], flowCode l o)
theorem both_TurnFlow (l : List S85) (o : List Int) (h : l.length ≤ 1048576) (ho : o.length ≤ 1048576) : Ev (fun k => spec_TurnFlow.f k l o) (turnB l o) ∧ Ev (fun k => impl_TurnFlow.f k l o) (turnB l o) := by
  simp only [spec_TurnFlow.f, impl_TurnFlow.f, turnB]
  by_cases hc : flowCode l o = 0
  · obtain ⟨_, _, hol, _⟩ := flowCode_zero hc
    refine ⟨Ev.bind (spec_flowCode l o h ho) ?_, Ev.bind (impl_flowCode l o h ho) ?_⟩ <;> simp only [if_pos hc, clone_ints o ho, Option.bind_some]
    · exact spec_turn l o hol h
    · exact impl_turn l o ho h
  · refine ⟨Ev.bind (spec_flowCode l o h ho) ?_, Ev.bind (impl_flowCode l o h ho) ?_⟩ <;> simp only [if_neg hc] <;> exact Ev.now _
theorem turnB_length (l : List S85) (o : List Int) (h : l.length ≤ 1048576) (ho : o.length ≤ 1048576) : (turnB l o).1.length ≤ 1048576 ∧ (turnB l o).2.1.length ≤ 1048576 := by
  unfold turnB
  split <;> simp <;> omega
theorem FnExactTurnFlow : laws_FnExactTurnFlow.Pure := by
  intro l o hl hw hlo hwo
  refine Ev.rounds (g := fun k => laws_FnExactTurnFlow.f k l o) ?_
  simp only [laws_FnExactTurnFlow.f]
  by_cases hs0 : (o.length : Int) > 1048576
  · simp only [if_pos hs0]
    exact Ev.now _
  simp only [if_neg hs0, szFlowJob l 1048576 (by omega) (by omega) (by omega), Option.bind_some]
  by_cases hs : (1048576 : Int) - l.length < 0
  · simp only [if_pos hs]
    exact Ev.now _
  · simp only [if_neg hs]
    have h0 : l.length ≤ 1048576 := by omega
    have ho : o.length ≤ 1048576 := by omega
    have hm : (l.map cvFlowJob).length ≤ 1048576 := by simpa using h0
    obtain ⟨h1, h2⟩ := both_TurnFlow (l.map cvFlowJob) o hm ho
    obtain ⟨hr1, hr2⟩ := turnB_length (l.map cvFlowJob) o hm ho
    generalize turnB (l.map cvFlowJob) o = r at h1 h2 hr1 hr2
    have e1 : ¬ (1 + 2 * (r.1.length : Int) < 0) := by omega
    have e2 : ¬ (1 + 2 * (r.1.length : Int) + (r.2.1.length : Int) < 0) := by omega
    refine Ev.bind (toFlowJobS l h0) ?_
    refine Ev.bind (toInt64S o ho) ?_
    refine Ev.bind h1 ?_
    refine Ev.bind (toFlowJobS l h0) ?_
    refine Ev.bind (toInt64S o ho) ?_
    refine Ev.bind h2 ?_
    refine Ev.bind (eqFlowJobS _ (by omega)) ?_
    simp only [if_true]
    refine Ev.bind (eqInt64S _ (by omega)) ?_
    simp only [if_true, bne_self_eq_false]
    refine Ev.step (fun k => by rw [laws_FnExactTurnFlow.j0]) ?_
    simp only [Bool.false_eq_true, if_false]
    refine Ev.bind (toFlowJobS l h0) ?_
    refine Ev.bind (eqFlowJobS _ (by omega)) ?_
    simp only [if_true]
    refine Ev.bind (toInt64S o ho) ?_
    refine Ev.bind (eqInt64S o (by omega)) ?_
    simp only [if_true]
    refine Ev.bind (markFlowJobS _ 1 (by omega) (by omega) (by omega)) ?_
    refine Ev.bind (markInt64S _ _ (by omega) (by omega) (by omega)) ?_
    simp only [if_neg (show ¬ (1 + 2 * ((l.map cvFlowJob).length : Int) + (o.length : Int) < 0) by omega)]
    refine Ev.bind (eqFlowJobS _ (by omega)) ?_
    simp only [if_true]
    refine Ev.bind (eqInt64S _ (by omega)) ?_
    simp only [if_true, bne_self_eq_false]
    refine Ev.step (fun k => by rw [laws_FnExactTurnFlow.j1]) ?_
    simp only [Bool.false_eq_true, if_false]
    refine Ev.bind (markFlowJobS _ 1 (by omega) (by omega) (by omega)) ?_
    refine Ev.bind (markInt64S _ _ (by omega) (by omega) (by omega)) ?_
    refine Ev.bind (heldFlowJobS _ 1 (by omega) (by omega)) ?_
    simp only [if_neg e1]
    refine Ev.bind (heldInt64S _ _ (by omega) (by omega)) ?_
    simp only [if_neg e2, if_true]
    refine Ev.bind (toFlowJobS l h0) ?_
    refine Ev.bind (toInt64S o ho) ?_
    refine Ev.bind h2 ?_
    refine Ev.bind (eqFlowJobS _ (by omega)) ?_
    simp only [if_true]
    refine Ev.bind (eqInt64S _ (by omega)) ?_
    simp only [if_true, bne_self_eq_false]
    refine Ev.step (fun k => by rw [laws_FnExactTurnFlow.j2]) ?_
    simp only [Bool.false_eq_true, if_false]
    refine Ev.bind (heldFlowJobS _ 1 (by omega) (by omega)) ?_
    simp only [if_neg e1]
    refine Ev.bind (heldInt64S _ _ (by omega) (by omega)) ?_
    simp only [if_neg e2, if_true]
    exact Ev.now _

end Go.Proofs.Ytdgacclmnfpajaa.Pure
