/- The pure statement of law FnExactTwoPartOrder: what the printed functions compute answers true at every input. No condition. -/
import Derived.Test.YtefnoiajfjbbpaaPFnExactTwoPartOrderx8
set_option linter.unusedVariables false
set_option linter.unusedSimpArgs false
namespace Go.Proofs.Ytefnoiajfjbbpaa.Pure
open Go.RowKit Go.Proofs.Ytefnoiajfjbbpaa.PFnExactTwoPartOrder Go.Proofs.YtefnoiajfjbbpaaW.PrintWords Go.Proofs.YtefnoiajfjbbpaaW.PrintLast Go.Proofs.YtefnoiajfjbbpaaW.PrintMore


/-! #### Numbers and rounds -/
theorem w64 {x : Int} (h1 : -9223372036854775808 ≤ x) (h2 : x ≤ 9223372036854775807) : wrap64 x = x := by
  unfold wrap64
  omega
theorem wf64 {x : Int} (h : (Lit.int .i64 x).wf = true) : -9223372036854775808 ≤ x ∧ x ≤ 9223372036854775807 := by
  simp only [Lit.wf, IntKind.min, IntKind.max, IntKind.signed, IntKind.bits, Bool.and_eq_true, decide_eq_true_eq, if_true] at h
  omega
theorem ev_of {α : Type} {g : Nat → Option α} {r : α} (h : ∀ k, g k = some r) : Ev g r := ⟨0, fun k _ => h k⟩
theorem ev_eq {α : Type} {g : Nat → Option α} {r r' : α} (h : Ev g r) (e : r = r') : Ev g r' := e ▸ h
/-- A loop over a list: what lies behind, what lies ahead. -/
theorem loop_list {α : Type} (l : List α) (Q : List α → List α → Prop) (h0 : Q l []) (hs : ∀ p x s, l = p ++ x :: s → Q (p ++ [x]) s → Q p (x :: s)) : Q [] l := by
  have h : ∀ s p, l = p ++ s → Q p s := by
    intro s
    induction s with
    | nil => intro p hp; rw [List.append_nil] at hp; rw [← hp]; exact h0
    | cons x s ih => intro p hp; exact hs p x s hp (ih (p ++ [x]) (by simp [hp]))
  exact h l [] rfl
theorem mid_lt {α : Type} {l p s : List α} {x : α} (h : l = p ++ x :: s) : (p.length : Int) < (l.length : Int) := by
  rw [h, List.length_append, List.length_cons]; omega
theorem mid_next {α : Type} {l p s : List α} {x : α} (h : l = p ++ x :: s) (hl : l.length ≤ 9223372036854775807) : wrap64 ((p.length : Int) + 1) = ((p ++ [x]).length : Int) := by
  have := mid_lt h
  rw [w64 (by omega) (by omega), List.length_append]; simp
theorem mid_get {α : Type} {l p s : List α} {x : α} (h : l = p ++ x :: s) (z : α) : l.getD (p.length : Int).toNat z = x := by
  rw [h]; simp
theorem get_mid {α : Type} (p s : List α) (x z : α) : (p ++ x :: s).getD (p.length : Int).toNat z = x := by simp
theorem nat_nn (n : Nat) : (0 : Int) ≤ (n : Int) := by omega
theorem nlt_self {α : Type} (l : List α) : ¬ ((l.length : Int) < (l.length : Int)) := by omega
theorem set_mid {α : Type} (p s : List α) (x y : α) : (p ++ x :: s).set ((p.length : Int).toNat) y = p ++ y :: s := by
  rw [Int.toNat_natCast, List.set_append_right _ _ (Nat.le_refl _)]; simp
theorem nil_or_snoc {α : Type} (p : List α) : p = [] ∨ ∃ q y, p = q ++ [y] := by
  rcases List.eq_nil_or_concat p with h | ⟨q, y, h⟩
  · exact .inl h
  · exact .inr ⟨q, y, by rw [h, List.concat_eq_append]⟩
theorem loop_all {α : Type} (l : List α) (Q : List α → List α → Prop) (h0 : Q l []) (hs : ∀ p x s, l = p ++ x :: s → Q (p ++ [x]) s → Q p (x :: s)) : ∀ s p, l = p ++ s → Q p s := by
  intro s
  induction s with
  | nil => intro p hp; rw [List.append_nil] at hp; rw [← hp]; exact h0
  | cons x s ih => intro p hp; exact hs p x s hp (ih (p ++ [x]) (by simp [hp]))
theorem szFlowJob (l : List S89) (a : Int) (ha : 0 ≤ a) (hb : a ≤ 1048576) (h : l.length ≤ 9000000000000000000) : laws_szFlowJobS.f l a = some (if a - l.length < 0 then (-1 : Int) else a - l.length) := by
  unfold laws_szFlowJobS.f
  rw [w64 (by omega) (by omega)]
  split <;> rfl
def cvFlowJob (x : S89) : S62 := ⟨x.f0, x.f1⟩
theorem toFlowJobS (l : List S89) (h : l.length ≤ 1048576) : Ev (fun k => laws_toFlowJobS.f k l) (l.map cvFlowJob) := by
  have H := loop_list l (fun p s => ∀ (a t : List S62), a.length = p.length → t.length = s.length → Ev (fun k => laws_toFlowJobS.l0 k l (a ++ t) (p.length : Int)) (a ++ s.map cvFlowJob)) ?_ ?_
  · have := H [] (List.replicate l.length z62) rfl (by simp)
    simp only [laws_toFlowJobS.f, Int.toNat_natCast, if_pos (nat_nn l.length)]
    rw [show (fun k => if l.length ≤ _ then _ else _) = (fun k => laws_toFlowJobS.l0 k l (List.replicate l.length z62) 0) from funext fun k => if_pos (by omega)]
    simpa using this
  · intro a t ha ht
    refine Ev.step (fun k => by rw [laws_toFlowJobS.l0]) ?_
    simp only [if_neg (nlt_self l)]
    have : t = [] := List.eq_nil_of_length_eq_zero (by simpa using ht)
    subst this
    exact Ev.now _
  · intro p x s he ih a t ha ht
    obtain ⟨y, t, rfl⟩ : ∃ y t', t = y :: t' := by cases t with | nil => simp at ht | cons y t => exact ⟨y, t, rfl⟩
    refine Ev.step (fun k => by rw [laws_toFlowJobS.l0]) ?_
    have e : ((p.length : Int) < ((a ++ y :: t).length : Int)) := by simp; omega
    have e2 := set_mid a t y (cvFlowJob x)
    rw [ha] at e2
    simp only [if_pos (mid_lt he), if_pos (nat_nn p.length), laws_toFlowJob.f, Option.bind_some, if_pos e, mid_next he (by omega), rd_T89, mid_get he]
    have := ih (a ++ [cvFlowJob x]) t (by simp [ha]) (by simpa using ht)
    simp only [cvFlowJob, List.append_assoc, List.singleton_append, List.map_cons] at this e2 ⊢
    rw [e2]
    exact this
theorem eqFlowJobS (l : List S62) (h : l.length ≤ 9000000000000000000) : Ev (fun k => laws_eqFlowJobS.f k l l) true := by
  simp only [laws_eqFlowJobS.f, if_true]
  refine loop_list l (fun p s => Ev (fun k => laws_eqFlowJobS.l0 k l l (p.length : Int)) true) ?_ ?_
  · refine Ev.step (fun k => by rw [laws_eqFlowJobS.l0]) ?_
    simp only [if_neg (nlt_self l)]
    exact Ev.now _
  · intro p x s he ih
    refine Ev.step (fun k => by rw [laws_eqFlowJobS.l0]) ?_
    simp only [if_pos (mid_lt he), if_pos (nat_nn p.length), laws_eqFlowJob.f, if_true, Option.bind_some, mid_next he (by omega)]
    exact ih
/-- Structs that hold the numbers from m on. -/
def numsFlowJob (m : Int) : Nat → List S62
  | 0 => []
  | n + 1 => ⟨m, m + 1⟩ :: numsFlowJob (m + 2) n
theorem numsFlowJob_length (n : Nat) : ∀ m, (numsFlowJob m n).length = n := by
  induction n with
  | zero => intro m; rfl
  | succ n ih => intro m; simp [numsFlowJob, ih]
theorem markFlowJobS (l : List S62) (m : Int) (hm : 0 ≤ m) (hb : m ≤ 1000000000000) (h : l.length ≤ 9000000000000) : Ev (fun k => laws_markFlowJobS.f k l m) (m + 2 * (l.length : Int), numsFlowJob m l.length) := by
  have H : ∀ (t a : List S62) (m : Int), 0 ≤ m → m + 2 * (t.length : Int) ≤ 1000000000000000 → a.length + t.length ≤ 9000000000000 → Ev (fun k => laws_markFlowJobS.l0 k (a ++ t) m (a.length : Int)) (m + 2 * (t.length : Int), a ++ numsFlowJob m t.length) := by
    intro t
    induction t with
    | nil =>
      intro a m hm hb ha
      refine Ev.step (fun k => by rw [laws_markFlowJobS.l0]) ?_
      simp only [List.append_nil, if_neg (nlt_self a), List.length_nil, numsFlowJob]
      exact ev_eq (Ev.now _) (by simp)
    | cons x t ih =>
      intro a m hm hb ha
      simp only [List.length_cons] at hb ha
      refine Ev.step (fun k => by rw [laws_markFlowJobS.l0]) ?_
      have e : ((a.length : Int) < ((a ++ x :: t).length : Int)) := by simp; omega
      simp only [if_pos e, if_pos (nat_nn a.length), set_mid, Option.bind_some, rd_T62, get_mid, w64 (x := m + 1) (by omega) (by omega), w64 (x := m + 2) (by omega) (by omega), (show m + 1 + 1 = m + 2 from by omega), w64 (x := (a.length : Int) + 1) (by omega) (by omega)]
      have := ih (a ++ [⟨m, m + 1⟩]) (m + 2) (by omega) (by omega) (by simp; omega)
      simp only [List.append_assoc, List.singleton_append, List.length_append, List.length_singleton] at this
      rw [show ((a.length + 1 : Nat) : Int) = (a.length : Int) + 1 by omega] at this
      refine ev_eq this ?_
      simp only [List.length_cons, numsFlowJob, Prod.mk.injEq, and_true]
      omega
  have := H l [] m hm (by omega) (by simpa using h)
  simpa [laws_markFlowJobS.f] using this
theorem eqInt64S (l : List Int) (h : l.length ≤ 9000000000000000000) : Ev (fun k => laws_eqInt64S.f k l l) true := by
  simp only [laws_eqInt64S.f, if_true]
  refine loop_list l (fun p s => Ev (fun k => laws_eqInt64S.l0 k l l (p.length : Int)) true) ?_ ?_
  · refine Ev.step (fun k => by rw [laws_eqInt64S.l0]) ?_
    simp only [if_neg (nlt_self l)]
    exact Ev.now _
  · intro p x s he ih
    refine Ev.step (fun k => by rw [laws_eqInt64S.l0]) ?_
    simp only [if_pos (mid_lt he), if_pos (nat_nn p.length), if_true, mid_next he (by omega)]
    exact ih
/-- The numbers from m on. -/
def numsI (m : Int) : Nat → List Int
  | 0 => []
  | n + 1 => m :: numsI (m + 1) n
theorem numsI_length (n : Nat) : ∀ m, (numsI m n).length = n := by
  induction n with
  | zero => intro m; rfl
  | succ n ih => intro m; simp [numsI, ih]
theorem markInt64S (l : List Int) (m : Int) (hm : 0 ≤ m) (hb : m ≤ 1000000000000) (h : l.length ≤ 9000000000000) : Ev (fun k => laws_markInt64S.f k l m) (m + (l.length : Int), numsI m l.length) := by
  have H : ∀ (t a : List Int) (m : Int), 0 ≤ m → m + (t.length : Int) ≤ 1000000000000000 → a.length + t.length ≤ 9000000000000 → Ev (fun k => laws_markInt64S.l0 k (a ++ t) m (a.length : Int)) (m + (t.length : Int), a ++ numsI m t.length) := by
    intro t
    induction t with
    | nil =>
      intro a m hm hb ha
      refine Ev.step (fun k => by rw [laws_markInt64S.l0]) ?_
      simp only [List.append_nil, if_neg (nlt_self a), List.length_nil, numsI]
      exact ev_eq (Ev.now _) (by simp)
    | cons x t ih =>
      intro a m hm hb ha
      simp only [List.length_cons] at hb ha
      refine Ev.step (fun k => by rw [laws_markInt64S.l0]) ?_
      have e : ((a.length : Int) < ((a ++ x :: t).length : Int)) := by simp; omega
      simp only [if_pos e, if_pos (nat_nn a.length), set_mid, w64 (x := m + 1) (by omega) (by omega), w64 (x := (a.length : Int) + 1) (by omega) (by omega)]
      have := ih (a ++ [m]) (m + 1) (by omega) (by omega) (by simp; omega)
      simp only [List.append_assoc, List.singleton_append, List.length_append, List.length_singleton] at this
      rw [show ((a.length + 1 : Nat) : Int) = (a.length : Int) + 1 by omega] at this
      refine ev_eq this ?_
      simp only [List.length_cons, numsI, Prod.mk.injEq, and_true]
      omega
  have := H l [] m hm (by omega) (by simpa using h)
  simpa [laws_markInt64S.f] using this
theorem heldInt64S (n : Nat) (m : Int) (hm : 0 ≤ m) (hb : m + (n : Int) ≤ 1000000000000000) : Ev (fun k => laws_heldInt64S.f k (numsI m n) m) (m + (n : Int)) := by
  have H := loop_list (numsI m n) (fun p s => ∀ q : Int, 0 ≤ q → q + (s.length : Int) ≤ 1000000000000000 → s = numsI q s.length → Ev (fun k => laws_heldInt64S.l0 k (numsI m n) q (p.length : Int)) (q + (s.length : Int))) ?_ ?_
  · have := H m hm (by rw [numsI_length]; omega) (by rw [numsI_length])
    rw [numsI_length] at this
    exact this
  · intro q h0 h1 hs
    refine Ev.step (fun k => by rw [laws_heldInt64S.l0]) ?_
    simp only [if_neg (nlt_self (numsI m n))]
    exact ev_eq (Ev.now _) (by simp)
  · intro p x s he ih q h0 h1 hs
    simp only [List.length_cons] at h1 hs
    rw [numsI] at hs
    obtain ⟨rfl, hs⟩ := List.cons.inj hs
    refine Ev.step (fun k => by rw [laws_heldInt64S.l0]) ?_
    have hl : (numsI m n).length ≤ 1000000000000000 := by rw [numsI_length]; omega
    have hx : rd (numsI m n) (p.length : Int) = x := mid_get he 0
    simp only [if_pos (mid_lt he), if_pos (nat_nn p.length), hx, if_true, mid_next he (by omega), w64 (x := x + 1) (by omega) (by omega)]
    refine ev_eq (ih (x + 1) (by omega) (by omega) hs) ?_
    simp only [List.length_cons]
    omega
def inR (a lo hi : Int) : Bool := decide (lo ≤ a) && decide (a ≤ hi)
theorem inR_iff {a lo hi : Int} : inR a lo hi = true ↔ lo ≤ a ∧ a ≤ hi := by simp [inR]
theorem l01In (a lo hi : Int) : spec_l01In.f a lo hi = some (inR a lo hi) := by
  unfold spec_l01In.f inR
  split
  · rename_i h; rw [decide_eq_true (show lo ≤ a from h), Bool.true_and]
  · rename_i h; rw [decide_eq_false (show ¬ lo ≤ a from h), Bool.false_and]
theorem inRange (a lo hi : Int) : impl_inRange.f a lo hi = some (inR a lo hi) := by
  unfold impl_inRange.f inR
  split
  · rename_i h; rw [decide_eq_true (show lo ≤ a from h), Bool.true_and]
  · rename_i h; rw [decide_eq_false (show ¬ lo ≤ a from h), Bool.false_and]
def okFlow (x : S62) : Bool := inR x.f0 0 100000 && inR x.f1 0 100000
theorem spec_AreFlowJobs (l : List S62) (h : l.length ≤ 1048576) : Ev (fun k => spec_AreFlowJobs.f k l) (l.all okFlow && decide (l.length ≤ 7)) := by
  refine loop_list l (fun p s => Ev (fun k => spec_AreFlowJobs.l0 k l (p.length : Int)) (s.all okFlow && decide (l.length ≤ 7))) ?_ ?_
  · refine Ev.step (fun k => by rw [spec_AreFlowJobs.l0]) ?_
    simp only [if_neg (nlt_self l), List.all_nil, Bool.true_and]
    exact ev_eq (Ev.now _) (decide_eq_decide.2 (by omega))
  · intro p x s he ih
    refine Ev.step (fun k => by rw [spec_AreFlowJobs.l0]) ?_
    simp only [if_pos (mid_lt he), if_pos (nat_nn p.length), mid_next he (by omega), rd_T62, mid_get he, l01In, Option.bind_some, List.all_cons]
    cases h0 : inR x.f0 0 100000 <;> cases h1 : inR x.f1 0 100000 <;> simp [okFlow, h0, h1] <;> first | exact Ev.now _ | simpa [mid_next he (by omega)] using ih
theorem impl_AreFlowJobs_1_ok (x : S62) : impl_AreFlowJobs_1.f x.f0 x.f1 = some (!(okFlow x)) := by
  simp only [impl_AreFlowJobs_1.f, impl_isMinutes.f, inRange, Option.bind_some, okFlow]
  cases inR x.f0 0 100000 <;> cases inR x.f1 0 100000 <;> rfl
theorem contains_impl_AreFlowJobs_1 (l : List S62) (h : l.length ≤ 1048576) : Ev (fun k => slices_ContainsFunc_at_impl_AreFlowJobs_1.f k l) (!(l.all okFlow)) := by
  have H := loop_list l (fun p s => ∃ r, Ev (fun k => slices_IndexFunc_at_impl_AreFlowJobs_1.l0 k l (l.length : Int) (p.length : Int)) r ∧ decide (r ≥ 0) = !(s.all okFlow)) ?_ ?_
  · obtain ⟨r, hr, e⟩ := H
    rw [← e]
    exact Ev.bind hr (Ev.now _)
  · refine ⟨-1, Ev.step (fun k => by rw [slices_IndexFunc_at_impl_AreFlowJobs_1.l0]) ?_, by simp⟩
    simp only [if_neg (nlt_self l)]
    exact Ev.now _
  · rintro p x s he ⟨r, ih, e⟩
    by_cases hx : okFlow x = true
    · refine ⟨r, Ev.step (fun k => by rw [slices_IndexFunc_at_impl_AreFlowJobs_1.l0]) ?_, by rw [e]; simp [hx]⟩
      simp only [if_pos (mid_lt he), if_pos (nat_nn p.length), rd_T62, mid_get he, impl_AreFlowJobs_1_ok, hx, Option.bind_some, mid_next he (by omega)]
      exact ih
    · refine ⟨(p.length : Int), Ev.step (fun k => by rw [slices_IndexFunc_at_impl_AreFlowJobs_1.l0]) ?_, by simp [hx]⟩
      simp only [if_pos (mid_lt he), if_pos (nat_nn p.length), rd_T62, mid_get he, impl_AreFlowJobs_1_ok, Bool.eq_false_iff.2 hx, Option.bind_some]
      exact Ev.now _
theorem impl_AreFlowJobs (l : List S62) (h : l.length ≤ 1048576) : Ev (fun k => impl_AreFlowJobs.f k l) (l.all okFlow && decide (l.length ≤ 7)) := by
  simp only [impl_AreFlowJobs.f]
  by_cases hl : (l.length : Int) ≤ 7
  · simp only [if_pos hl]
    exact ev_eq (Ev.bind (contains_impl_AreFlowJobs_1 l h) (Ev.now _)) (by simp [show l.length ≤ 7 by omega])
  · simp only [if_neg hl]
    exact ev_eq (Ev.now _) (by simp [show ¬ l.length ≤ 7 by omega])

/-- A number put ahead of the first that it is less than. -/
def insF (lt : Int → Int → Bool) (x : Int) : List Int → List Int
  | [] => [x]
  | y :: t => if lt x y = true then x :: y :: t else y :: insF lt x t
def sortF (lt : Int → Int → Bool) : Nat → List Int
  | 0 => []
  | n + 1 => insF lt (n : Int) (sortF lt n)
/-- None is less than one ahead of it. -/
def srtd (lt : Int → Int → Bool) (p : List Int) : Prop := ∀ u y v, p = u ++ y :: v → ∀ z ∈ v, lt z y = false
theorem insF_length (lt : Int → Int → Bool) (x : Int) (p : List Int) : (insF lt x p).length = p.length + 1 := by
  induction p with
  | nil => rfl
  | cons y p ih => simp only [insF]; split <;> simp [ih]
theorem sortF_length (lt : Int → Int → Bool) (n : Nat) : (sortF lt n).length = n := by
  induction n with
  | zero => rfl
  | succ n ih => simp [sortF, insF_length, ih]
theorem insF_mem {lt : Int → Int → Bool} {x z : Int} : ∀ {p : List Int}, z ∈ insF lt x p ↔ z = x ∨ z ∈ p := by
  intro p
  induction p with
  | nil => simp [insF]
  | cons y p ih =>
    simp only [insF]
    split
    · simp
    · simp only [List.mem_cons, ih]
      constructor
      · rintro (h | h | h)
        · exact Or.inr (Or.inl h)
        · exact Or.inl h
        · exact Or.inr (Or.inr h)
      · rintro (h | h | h)
        · exact Or.inr (Or.inl h)
        · exact Or.inl h
        · exact Or.inr (Or.inr h)
theorem sortF_mem {lt : Int → Int → Bool} : ∀ {n : Nat} {z : Int}, z ∈ sortF lt n → 0 ≤ z ∧ z < (n : Int) := by
  intro n
  induction n with
  | zero => intro z h; cases h
  | succ n ih =>
    intro z h
    rcases insF_mem.1 h with rfl | h
    · omega
    · have := ih h; omega
theorem srtd_cons {lt : Int → Int → Bool} {y : Int} {p : List Int} : srtd lt (y :: p) ↔ (∀ z ∈ p, lt z y = false) ∧ srtd lt p := by
  constructor
  · intro h
    exact ⟨h [] y p rfl, fun u w v e => h (y :: u) w v (by rw [e]; rfl)⟩
  · rintro ⟨h1, h2⟩ u w v e
    cases u with
    | nil => simp only [List.nil_append, List.cons.injEq] at e; obtain ⟨rfl, rfl⟩ := e; exact h1
    | cons q u => simp only [List.cons_append, List.cons.injEq] at e; exact h2 u w v e.2
theorem insF_srtd {lt : Int → Int → Bool} (hO : ∀ x y z, lt x y = true → lt z y = false → lt x z = true) (hA : ∀ x y, lt x y = true → lt y x = false) (x : Int) : ∀ p, srtd lt p → srtd lt (insF lt x p) := by
  intro p
  induction p with
  | nil => intro _; exact srtd_cons.2 ⟨fun z hz => (by cases hz), fun u y v e => (by simp at e)⟩
  | cons y p ih =>
    intro h
    obtain ⟨h1, h2⟩ := srtd_cons.1 h
    simp only [insF]
    by_cases hx : lt x y = true
    · rw [if_pos hx]
      refine srtd_cons.2 ⟨fun z hz => ?_, h⟩
      rcases List.mem_cons.1 hz with rfl | hz
      · exact hA _ _ hx
      · exact hA _ _ (hO x y z hx (h1 z hz))
    · rw [if_neg hx]
      refine srtd_cons.2 ⟨fun z hz => ?_, ih h2⟩
      rcases insF_mem.1 hz with rfl | hz
      · exact Bool.eq_false_iff.2 hx
      · exact h1 z hz
theorem sortF_srtd {lt : Int → Int → Bool} (hO : ∀ x y z, lt x y = true → lt z y = false → lt x z = true) (hA : ∀ x y, lt x y = true → lt y x = false) (n : Nat) : srtd lt (sortF lt n) := by
  induction n with
  | zero => intro u y v e; simp [sortF] at e
  | succ n ih => exact insF_srtd hO hA _ _ ih
theorem insF_at {lt : Int → Int → Bool} {x : Int} : ∀ (u v : List Int), (∀ w ∈ u, lt x w = false) → (v = [] ∨ ∃ y t, v = y :: t ∧ lt x y = true) → insF lt x (u ++ v) = u ++ x :: v := by
  intro u
  induction u with
  | nil =>
    rintro v _ (rfl | ⟨y, t, rfl, h⟩)
    · rfl
    · simp only [List.nil_append, insF, if_pos h]
  | cons w u ih =>
    intro v h1 h2
    simp only [List.cons_append, insF, if_neg (Bool.eq_false_iff.1 (h1 w (by simp))), ih v (fun z hz => h1 z (by simp [hz])) h2]
theorem srtd_all {lt : Int → Int → Bool} (hO : ∀ x y z, lt x y = true → lt z y = false → lt x z = true) {x y : Int} {u v : List Int} (h : srtd lt (u ++ y :: v)) (hy : lt x y = false) : ∀ w ∈ u ++ [y], lt x w = false := by
  intro w hw
  rcases List.mem_append.1 hw with hw | hw
  · obtain ⟨a, b, rfl⟩ := List.append_of_mem hw
    have := h a w (b ++ y :: v) (by simp) y (by simp)
    cases e : lt x w
    · rfl
    · rw [hO x w y e this] at hy; cases hy
  · have : w = y := by simpa using hw
    rw [this]; exact hy
theorem ins_impl_twoPartOrder_1 {l : List S62} {lt : Int → Int → Bool} (hcmp : ∀ a b : Int, 0 ≤ a → a < (l.length : Int) → 0 ≤ b → b < (l.length : Int) → ∃ t : Int, Ev (fun k => impl_twoPartOrder_1.f k a b l) t ∧ (t < 0 ↔ lt a b = true)) (hO : ∀ x y z, lt x y = true → lt z y = false → lt x z = true)
    {x : Int} (hx0 : 0 ≤ x) (hx1 : x < (l.length : Int)) (n i : Int) {r : List Int} (rest : List Int) : ∀ (d : Nat) (u v : List Int), u.length = d → (u ++ v).length + rest.length ≤ 1000000 → srtd lt (u ++ v) → (∀ z ∈ u ++ v, 0 ≤ z ∧ z < (l.length : Int)) → (v = [] ∨ ∃ y t, v = y :: t ∧ lt x y = true) →
    Ev (fun k => slices_insertionSortCmpFunc_at_impl_twoPartOrder_1.l0 k (insF lt x (u ++ v) ++ rest) 0 n l (wrap64 (i + 1))) r → Ev (fun k => slices_insertionSortCmpFunc_at_impl_twoPartOrder_1.l1 k (u ++ x :: (v ++ rest)) 0 n l i (u.length : Int)) r := by
  intro d
  induction d with
  | zero =>
    intro u v hu hl hs hm hv h
    have : u = [] := List.eq_nil_of_length_eq_zero hu
    subst this
    rw [insF_at [] v (fun w hw => by cases hw) hv] at h
    refine Ev.step (fun k => by rw [slices_insertionSortCmpFunc_at_impl_twoPartOrder_1.l1]) ?_
    simp only [if_neg (show ¬ (((([] : List Int).length : Nat) : Int) > 0) by simp)]
    simpa using h
  | succ d ih =>
    intro u v hu hl hs hm hv h
    rcases nil_or_snoc u with rfl | ⟨u, y, rfl⟩
    · simp at hu
    · have hul : u.length = d := by simpa using hu
      have hy := hm y (by simp)
      have hpl : ((u ++ [y]).length : Int) = (u.length : Int) + 1 := by simp
      have hlen : ((u ++ [y] ++ x :: (v ++ rest)).length : Int) = (u.length : Int) + 2 + (v.length : Int) + (rest.length : Int) := by simp; omega
      have hl' : u.length + 1 + v.length + rest.length ≤ 1000000 := by simpa [Nat.add_assoc, Nat.add_comm, Nat.add_left_comm] using hl
      have e1 : wrap64 ((u.length : Int) + 1 - 1) = (u.length : Int) := by rw [show (u.length : Int) + 1 - 1 = (u.length : Int) by omega]; exact w64 (by omega) (by omega)
      have g1 : rd (u ++ [y] ++ x :: (v ++ rest)) ((u.length : Int) + 1) = x := by
        rw [← hpl]; exact get_mid _ _ _ 0
      have g2 : rd (u ++ [y] ++ x :: (v ++ rest)) (u.length : Int) = y := by
        rw [show u ++ [y] ++ x :: (v ++ rest) = u ++ y :: (x :: (v ++ rest)) by simp]; exact get_mid _ _ _ 0
      obtain ⟨t, ht, hlt⟩ := hcmp x y hx0 hx1 hy.1 hy.2
      refine Ev.step (fun k => by rw [slices_insertionSortCmpFunc_at_impl_twoPartOrder_1.l1]) ?_
      simp only [hpl, if_pos (show (u.length : Int) + 1 > 0 by omega), if_pos (show 0 ≤ (u.length : Int) + 1 by omega), hlen, if_pos (show (u.length : Int) + 1 < (u.length : Int) + 2 + (v.length : Int) + (rest.length : Int) by omega), e1, if_pos (nat_nn u.length), if_pos (show (u.length : Int) < (u.length : Int) + 2 + (v.length : Int) + (rest.length : Int) by omega), g1, g2]
      refine Ev.bind ht ?_
      by_cases hc : lt x y = true
      · simp only [if_pos (hlt.2 hc)]
        have s1 : ((u ++ [y] ++ x :: (v ++ rest)).set (((u.length : Int) + 1)).toNat y).set ((u.length : Int)).toNat x = u ++ x :: ((y :: v) ++ rest) := by
          rw [← hpl, set_mid, show u ++ [y] ++ y :: (v ++ rest) = u ++ y :: (y :: (v ++ rest)) by simp, set_mid]
          simp
        rw [s1]
        refine ih u (y :: v) hul (by simpa [Nat.add_assoc, Nat.add_comm, Nat.add_left_comm] using hl) (by simpa using hs) (fun z hz => hm z (by simpa using hz)) (Or.inr ⟨y, v, rfl, hc⟩) ?_
        simpa using h
      · have hc' := Bool.eq_false_iff.2 hc
        simp only [if_neg (fun h => hc (hlt.1 h))]
        rw [insF_at (u ++ [y]) v (srtd_all hO (by simpa using hs) hc') hv] at h
        simpa using h
theorem sort_impl_twoPartOrder_1 {l : List S62} {lt : Int → Int → Bool} (hcmp : ∀ a b : Int, 0 ≤ a → a < (l.length : Int) → 0 ≤ b → b < (l.length : Int) → ∃ t : Int, Ev (fun k => impl_twoPartOrder_1.f k a b l) t ∧ (t < 0 ↔ lt a b = true)) (hO : ∀ x y z, lt x y = true → lt z y = false → lt x z = true) (hA : ∀ x y, lt x y = true → lt y x = false)
    : ∀ (m i : Nat), i + m = l.length → l.length ≤ 1000 → Ev (fun k => slices_insertionSortCmpFunc_at_impl_twoPartOrder_1.l0 k (sortF lt i ++ numsI (i : Int) m) 0 (l.length : Int) l (i : Int)) (sortF lt l.length) := by
  intro m
  induction m with
  | zero =>
    intro i hi hl
    have : i = l.length := by omega
    subst this
    refine Ev.step (fun k => by rw [slices_insertionSortCmpFunc_at_impl_twoPartOrder_1.l0]) ?_
    simp only [if_neg (nlt_self l), numsI, List.append_nil]
    exact Ev.now _
  | succ m ih =>
    intro i hi hl
    refine Ev.step (fun k => by rw [slices_insertionSortCmpFunc_at_impl_twoPartOrder_1.l0]) ?_
    simp only [if_pos (show (i : Int) < (l.length : Int) by omega), numsI]
    have hn := ih (i + 1) (by omega) hl
    have := ins_impl_twoPartOrder_1 hcmp hO (x := (i : Int)) (by omega) (by omega) (l.length : Int) (i : Int) (r := sortF lt l.length) (numsI ((i : Int) + 1) m) i (sortF lt i) [] (sortF_length lt i) (by simp [sortF_length, numsI_length]; omega) (by simpa using sortF_srtd hO hA i) (fun z hz => by
      have := sortF_mem (by simpa using hz : z ∈ sortF lt i)
      omega) (Or.inl rfl) (by
      rw [w64 (by omega) (by omega), List.append_nil]
      have e : ((i + 1 : Nat) : Int) = (i : Int) + 1 := by omega
      rw [e] at hn
      exact hn)
    rw [sortF_length] at this
    simpa using this
theorem sorted_impl_twoPartOrder_1 {l : List S62} {lt : Int → Int → Bool} (hcmp : ∀ a b : Int, 0 ≤ a → a < (l.length : Int) → 0 ≤ b → b < (l.length : Int) → ∃ t : Int, Ev (fun k => impl_twoPartOrder_1.f k a b l) t ∧ (t < 0 ↔ lt a b = true)) (hO : ∀ x y z, lt x y = true → lt z y = false → lt x z = true) (hA : ∀ x y, lt x y = true → lt y x = false)
    (h7 : l.length ≤ 7) : Ev (fun k => impl_sortedBy_at_impl_twoPartOrder_1.f k (l.length : Int) l) (sortF lt l.length) := by
  have hs : Ev (fun k => slices_SortStableFunc_at_impl_twoPartOrder_1.f k (numsI 0 l.length) l) (sortF lt l.length) := by
    simp only [slices_SortStableFunc_at_impl_twoPartOrder_1.f]
    refine Ev.bind (a := sortF lt l.length) ?_ (Ev.now _)
    simp only [slices_stableCmpFunc_at_impl_twoPartOrder_1.f, numsI_length]
    refine Ev.step (fun k => by rw [slices_stableCmpFunc_at_impl_twoPartOrder_1.l0]) ?_
    simp only [if_neg (show ¬ ((20 : Int) ≤ (l.length : Int)) by omega)]
    refine Ev.bind (a := sortF lt l.length) ?_ ?_
    · simp only [slices_insertionSortCmpFunc_at_impl_twoPartOrder_1.f]
      rw [show wrap64 ((0 : Int) + 1) = ((1 : Nat) : Int) from w64 (by omega) (by omega)]
      by_cases h0 : l.length = 0
      · rw [h0]
        refine Ev.step (fun k => by rw [slices_insertionSortCmpFunc_at_impl_twoPartOrder_1.l0]) ?_
        simp only [if_neg (show ¬ (((1 : Nat) : Int) < ((0 : Nat) : Int)) by omega), numsI, sortF]
        exact Ev.now _
      · have := sort_impl_twoPartOrder_1 hcmp hO hA (l.length - 1) 1 (by omega) (by omega)
        have e : numsI 0 l.length = sortF lt 1 ++ numsI ((1 : Nat) : Int) (l.length - 1) := by
          rw [show l.length = (l.length - 1) + 1 by omega]
          simp [numsI, sortF, insF]
        rw [← e] at this
        exact this
    · refine Ev.step (fun k => by rw [slices_stableCmpFunc_at_impl_twoPartOrder_1.l1]) ?_
      simp only [if_neg (show ¬ ((20 : Int) < (l.length : Int)) by omega)]
      exact Ev.now _
  simp only [impl_sortedBy_at_impl_twoPartOrder_1.f]
  have H : ∀ (m : Nat) (acc : List Int) (i : Int), 0 ≤ i → i + (m : Int) = (l.length : Int) → (acc.length : Int) = i → acc ++ numsI i m = numsI 0 l.length → Ev (fun k => impl_sortedBy_at_impl_twoPartOrder_1.l0 k l acc (l.length : Int) i) (sortF lt l.length) := by
    intro m
    induction m with
    | zero =>
      intro acc i h0 hi ha he
      refine Ev.step (fun k => by rw [impl_sortedBy_at_impl_twoPartOrder_1.l0]) ?_
      simp only [if_neg (show ¬ (i < (l.length : Int)) by omega)]
      simp only [numsI, List.append_nil] at he
      rw [he]
      exact Ev.bind hs (Ev.now _)
    | succ m ih =>
      intro acc i h0 hi ha he
      refine Ev.step (fun k => by rw [impl_sortedBy_at_impl_twoPartOrder_1.l0]) ?_
      simp only [if_pos (show i < (l.length : Int) by omega), if_pos (show acc.length < 17592186044416 by omega), w64 (x := i + 1) (by omega) (by omega)]
      exact ih (acc ++ [i]) (i + 1) (by omega) (by omega) (by simp; omega) (by simpa [numsI] using he)
  exact H l.length [] 0 (by omega) (by omega) rfl rfl
def keyA (x : S62) : Int := if x.f0 < x.f1 then 0 else 1
def keyB (x : S62) : Int := if x.f0 < x.f1 then x.f0 else wrap64 (-x.f1)
def ltX (x y : S62) : Bool := if keyA x = keyA y then decide (keyB x < keyB y) else decide (keyA x < keyA y)
def ltT (l : List S62) (a b : Int) : Bool := ltX (rd_T62 l a) (rd_T62 l b)
theorem ltT_O (l : List S62) : ∀ x y z, ltT l x y = true → ltT l z y = false → ltT l x z = true := by
  intro x y z h1 h2
  simp only [ltT, ltX] at h1 h2 ⊢
  split at h1 <;> split at h2 <;> split <;> simp only [decide_eq_true_eq, decide_eq_false_iff_not] at h1 h2 ⊢ <;> omega
theorem ltT_A (l : List S62) : ∀ x y, ltT l x y = true → ltT l y x = false := by
  intro x y h1
  simp only [ltT, ltX] at h1 ⊢
  split at h1 <;> split <;> simp only [decide_eq_true_eq, decide_eq_false_iff_not] at h1 ⊢ <;> omega
theorem cmp64 (a b : Int) : ∃ t : Int, cmp_Compare_int64.f a b = some t ∧ (t < 0 ↔ a < b) := by
  simp only [cmp_Compare_int64.f, cmp_isNaN_int64.f, Option.bind_some, bne_self_eq_false, Bool.false_eq_true, if_false]
  by_cases h : a < b
  · exact ⟨-1, by simp only [if_pos h], by simp [h]⟩
  · by_cases h' : a > b
    · exact ⟨1, by simp only [if_neg h, if_pos h'], by simp [h]⟩
    · exact ⟨0, by simp only [if_neg h, if_neg h'], by simp [h]⟩
theorem cmp_two (l : List S62) (hok : ∀ x ∈ l, okFlow x = true) (a b : Int) (ha : 0 ≤ a) (ha1 : a < (l.length : Int)) (hb : 0 ≤ b) (hb1 : b < (l.length : Int)) : ∃ t : Int, Ev (fun k => impl_twoPartOrder_1.f k a b l) t ∧ (t < 0 ↔ ltT l a b = true) := by
  have hm : ∀ i : Int, 0 ≤ i → i < (l.length : Int) → 0 ≤ (rd_T62 l i).f1 ∧ (rd_T62 l i).f1 ≤ 100000 := by
    intro i h0 h1
    have hi : i.toNat < l.length := by omega
    have : rd_T62 l i ∈ l := by
      unfold rd_T62
      rw [List.getD_eq_getElem?_getD, List.getElem?_eq_getElem hi]
      exact List.getElem_mem hi
    have := hok _ this
    simp only [okFlow, Bool.and_eq_true, inR_iff] at this
    omega
  have ra := hm a ha ha1
  have rb := hm b hb hb1
  simp only [impl_twoPartOrder_1.f, if_pos ha, if_pos ha1, if_pos hb, if_pos hb1, ltT]
  generalize rd_T62 l a = x at ra ⊢
  generalize rd_T62 l b = y at rb ⊢
  have wx : wrap64 (-x.f1) = -x.f1 := w64 (by omega) (by omega)
  have wy : wrap64 (-y.f1) = -y.f1 := w64 (by omega) (by omega)
  by_cases h1 : x.f0 < x.f1
  · by_cases h2 : y.f0 < y.f1
    · obtain ⟨t, ht, hlt⟩ := cmp64 x.f0 y.f0
      refine ⟨t, ?_, by simp [ltX, keyA, keyB, h1, h2, hlt]⟩
      simp only [if_pos h1, decide_eq_true h1, decide_eq_true h2]
      refine Ev.step (fun k => by rw [impl_twoPartOrder_1.j0]) ?_
      simp only [if_true, ht, Option.bind_some]
      exact Ev.now _
    · refine ⟨-1, ?_, by simp [ltX, keyA, keyB, h1, h2]⟩
      simp only [if_pos h1, decide_eq_true h1, decide_eq_false h2]
      refine Ev.step (fun k => by rw [impl_twoPartOrder_1.j0]) ?_
      simp only [Bool.false_eq_true, if_false, if_true]
      refine Ev.step (fun k => by rw [impl_twoPartOrder_1.j1]) ?_
      simp only [Bool.false_eq_true, if_false, impl_toInt.f, if_true, Option.bind_some]
      exact ev_eq (Ev.now _) (w64 (x := 0 - 1) (by omega) (by omega))
  · by_cases h2 : y.f0 < y.f1
    · refine ⟨1, ?_, by simp [ltX, keyA, keyB, h1, h2]⟩
      simp only [if_neg h1, decide_eq_false h1, decide_eq_true h2]
      refine Ev.step (fun k => by rw [impl_twoPartOrder_1.j0]) ?_
      simp only [Bool.false_eq_true, if_false, Bool.not_true]
      refine Ev.step (fun k => by rw [impl_twoPartOrder_1.j1]) ?_
      simp only [Bool.false_eq_true, if_false, impl_toInt.f, if_true, Option.bind_some]
      exact ev_eq (Ev.now _) (w64 (x := 1 - 0) (by omega) (by omega))
    · obtain ⟨t, ht, hlt⟩ := cmp64 y.f1 x.f1
      refine ⟨t, ?_, by simp only [ltX, keyA, keyB, if_neg h1, if_neg h2, if_true, wx, wy, decide_eq_true_eq, hlt]; omega⟩
      simp only [if_neg h1, decide_eq_false h1, decide_eq_false h2]
      refine Ev.step (fun k => by rw [impl_twoPartOrder_1.j0]) ?_
      simp only [Bool.false_eq_true, if_false, Bool.not_false]
      refine Ev.step (fun k => by rw [impl_twoPartOrder_1.j1]) ?_
      simp only [if_true, ht, Option.bind_some]
      exact Ev.now _
theorem less_two (a b c d : Int) : Ev (fun k => spec_l01Less.f k [a, b] [c, d]) (if a = c then decide (b < d) else decide (a < c)) := by
  simp only [spec_l01Less.f]
  have r0 : rd [a, b] 0 = a := rfl
  have r1 : rd [c, d] 0 = c := rfl
  have r2 : rd [a, b] 1 = b := rfl
  have r3 : rd [c, d] 1 = d := rfl
  have l2 : (([a, b] : List Int).length : Int) = 2 := rfl
  have l3 : (([c, d] : List Int).length : Int) = 2 := rfl
  refine Ev.step (fun k => by rw [spec_l01Less.l0]) ?_
  simp only [l2, l3, if_pos (show (0 : Int) < 2 by decide), decide_eq_true (show (0 : Int) < 2 by decide)]
  refine Ev.step (fun k => by rw [spec_l01Less.j1]) ?_
  simp only [if_true, if_pos (show (0 : Int) ≤ 0 by decide), l2, l3, if_pos (show (0 : Int) < 2 by decide), r0, r1]
  by_cases h : a = c
  · simp only [if_pos h]
    rw [show wrap64 ((0 : Int) + 1) = 1 from w64 (by omega) (by omega)]
    refine Ev.step (fun k => by rw [spec_l01Less.l0]) ?_
    simp only [l2, l3, if_pos (show (1 : Int) < 2 by decide), decide_eq_true (show (1 : Int) < 2 by decide)]
    refine Ev.step (fun k => by rw [spec_l01Less.j1]) ?_
    simp only [if_true, if_pos (show (0 : Int) ≤ 1 by decide), l2, l3, if_pos (show (1 : Int) < 2 by decide), r2, r3]
    by_cases h' : b = d
    · simp only [if_pos h']
      rw [show wrap64 ((1 : Int) + 1) = 2 from w64 (by omega) (by omega)]
      refine Ev.step (fun k => by rw [spec_l01Less.l0]) ?_
      simp only [l2, if_neg (show ¬ (2 : Int) < 2 by decide)]
      refine Ev.step (fun k => by rw [spec_l01Less.j1]) ?_
      simp only [Bool.false_eq_true, if_false, l2, l3]
      exact ev_eq (Ev.now _) (by simp [h'])
    · simp only [if_neg h']
      exact Ev.now _
  · simp only [if_neg h]
    exact Ev.now _
def keyT (l : List S62) : List (List Int) := l.map fun x => [keyA x, keyB x]
theorem key_at {l p s : List S62} (h : l = p ++ s) {i : Int} (h0 : 0 ≤ i) (h1 : i < (p.length : Int)) : rd_L3 (keyT p) i = [keyA (rd_T62 l i), keyB (rd_T62 l i)] := by
  have hi : i.toNat < p.length := by omega
  unfold rd_L3 keyT rd_T62
  subst h
  simp [List.getD_eq_getElem?_getD, List.getElem?_append_left hi, hi]
theorem spec_insert {l p s : List S62} {x : S62} (he : l = p ++ x :: s) (hl : l.length ≤ 1048576) (q : List Int) (hq : q.length = p.length) (hm : ∀ z ∈ q, 0 ≤ z ∧ z < (p.length : Int)) : Ev (fun k => spec_l20Insert.f k q (keyT (p ++ [x])) (p.length : Int)) (insF (ltT l) (p.length : Int) q) := by
  simp only [spec_l20Insert.f]
  have hkl : (keyT (p ++ [x])).length = p.length + 1 := by simp [keyT]
  have hpl := mid_lt he
  have he' : l = (p ++ [x]) ++ s := by rw [he]; simp
  have hfin : ∀ (u v : List Int), q = u ++ v → Ev (fun _ : Nat => (spec_l01Own.f (q.take ((u.length : Int)).toNat)).bind fun t145 => ((some (([(p.length : Int)] : List Int) : List Int)).bind fun y148 => (if t145.length + y148.length < 17592186044416 then ((some (t145 ++ y148 : List Int)).bind fun y151 => (if y151.length + (q.drop ((u.length : Int)).toNat).length < 17592186044416 then (some (y151 ++ (q.drop ((u.length : Int)).toNat))) else (none))) else (none)))) (u ++ (p.length : Int) :: v) := by
    intro u v e
    have e1 : q.take ((u.length : Int)).toNat = u := by rw [e, Int.toNat_natCast]; simp
    have e2 : q.drop ((u.length : Int)).toNat = v := by rw [e, Int.toNat_natCast]; simp
    have el := congrArg List.length e
    simp only [List.length_append] at el
    simp only [e1, e2, spec_l01Own.f, Option.bind_some, List.length_nil, List.nil_append, if_pos (show 0 + u.length < 17592186044416 by omega), List.length_singleton, if_pos (show u.length + 1 < 17592186044416 by omega), List.length_append, if_pos (show u.length + 1 + v.length < 17592186044416 by omega)]
    exact ev_eq (Ev.now _) (by simp)
  refine loop_list q (fun u v => Ev (fun k => spec_l20Insert.l0 k q (keyT (p ++ [x])) (p.length : Int) (u.length : Int)) (u ++ insF (ltT l) (p.length : Int) v)) ?_ ?_
  · refine Ev.step (fun k => by rw [spec_l20Insert.l0]) ?_
    simp only [if_neg (nlt_self q), if_pos (nat_nn q.length), if_pos (Int.le_refl (q.length : Int))]
    exact hfin q [] (by simp)
  · intro u y v e ih
    have hu := mid_lt e
    have hy := hm y (by rw [e]; simp)
    have ry : rd q (u.length : Int) = y := mid_get e 0
    have k1 := key_at he' (nat_nn p.length) (by simp; omega : (p.length : Int) < ((p ++ [x]).length : Int))
    have k2 := key_at he' hy.1 (by simp; omega : y < ((p ++ [x]).length : Int))
    refine Ev.step (fun k => by rw [spec_l20Insert.l0]) ?_
    simp only [if_pos hu, if_pos (nat_nn p.length), hkl, if_pos (show (p.length : Int) < ((p.length + 1 : Nat) : Int) by omega), if_pos (nat_nn u.length), ry, if_pos hy.1, if_pos (show y < ((p.length + 1 : Nat) : Int) by omega), k1, k2]
    refine Ev.bind (a := ltT l (p.length : Int) y) (less_two _ _ _ _) ?_
    by_cases hlt : ltT l (p.length : Int) y = true
    · simp only [hlt, if_true, if_pos (show (u.length : Int) ≤ (q.length : Int) by omega), insF, if_pos hlt]
      exact hfin u (y :: v) e
    · simp only [if_neg hlt, mid_next e (by omega), insF]
      simpa using ih
theorem spec_two (l : List S62) (h7 : l.length ≤ 1000) : Ev (fun k => spec_l21Two.f k l) (sortF (ltT l) l.length) := by
  simp only [spec_l21Two.f]
  refine loop_list l (fun p s => Ev (fun k => spec_l21Two.l0 k l (keyT p) (sortF (ltT l) p.length) (p.length : Int)) (sortF (ltT l) l.length)) ?_ ?_
  · refine Ev.step (fun k => by rw [spec_l21Two.l0]) ?_
    simp only [if_neg (nlt_self l)]
    exact Ev.now _
  · intro p x s he ih
    have hp := mid_lt he
    have hx : rd_T62 l (p.length : Int) = x := by unfold rd_T62; exact mid_get he _
    have hk : (keyT p).length = p.length := by simp [keyT]
    have hins := spec_insert he (by omega) (sortF (ltT l) p.length) (sortF_length _ _) (fun z hz => sortF_mem hz)
    have e : sortF (ltT l) (p ++ [x]).length = insF (ltT l) (p.length : Int) (sortF (ltT l) p.length) := by
      rw [show (p ++ [x]).length = p.length + 1 by simp]; rfl
    rw [e] at ih
    refine Ev.step (fun k => by rw [spec_l21Two.l0]) ?_
    simp only [if_pos hp, if_pos (nat_nn p.length), hk, hx, if_pos (show p.length < 5864062014805 by omega), Option.bind_some, mid_next he (by omega)]
    by_cases h : x.f0 < x.f1
    · have ek : keyT p ++ [[0, x.f0]] = keyT (p ++ [x]) := by simp [keyT, keyA, keyB, h]
      simp only [if_pos h, ek]
      exact Ev.bind hins ih
    · have ek : keyT p ++ [[1, wrap64 (-x.f1)]] = keyT (p ++ [x]) := by simp [keyT, keyA, keyB, h]
      simp only [if_neg h, ek]
      exact Ev.bind hins ih
theorem both_TwoPartOrder (l : List S62) (h : l.length ≤ 1048576) : ∃ r : List Int × Int, Ev (fun k => spec_TwoPartOrder.f k l) r ∧ Ev (fun k => impl_TwoPartOrder.f k l) r ∧ r.1.length ≤ 1048576 := by
  simp only [spec_TwoPartOrder.f, impl_TwoPartOrder.f]
  have s1 := spec_AreFlowJobs l h
  have i1 := impl_AreFlowJobs l h
  cases hc : (l.all okFlow && decide (l.length ≤ 7)) <;> rw [hc] at s1 i1
  · exact ⟨([], 1), Ev.bind s1 (by simp only [Bool.false_eq_true, if_false]; exact Ev.now _), Ev.bind i1 (by simp only [Bool.false_eq_true, if_false]; exact Ev.now _), by simp⟩
  · simp only [Bool.and_eq_true, decide_eq_true_eq, List.all_eq_true] at hc
    refine ⟨(sortF (ltT l) l.length, 0), Ev.bind s1 ?_, Ev.bind i1 ?_, by simp only [sortF_length]; exact h⟩
    · simp only [if_true]
      exact Ev.bind (spec_two l (by omega)) (Ev.now _)
    · simp only [if_true, impl_twoPartOrder.f]
      exact Ev.bind (Ev.bind (sorted_impl_twoPartOrder_1 (cmp_two l hc.1) (ltT_O l) (ltT_A l) hc.2) (Ev.now _)) (Ev.now _)
theorem FnExactTwoPartOrder : laws_FnExactTwoPartOrder.Pure := by
  intro l hl hw
  refine Ev.rounds (g := fun k => laws_FnExactTwoPartOrder.f k l) ?_
  simp only [laws_FnExactTwoPartOrder.f, szFlowJob l 1048576 (by omega) (by omega) (by omega), Option.bind_some]
  by_cases hs : (1048576 : Int) - l.length < 0
  · simp only [if_pos hs]
    exact Ev.now _
  · simp only [if_neg hs]
    have h0 : l.length ≤ 1048576 := by omega
    have hm : (l.map cvFlowJob).length ≤ 1048576 := by simpa using h0
    obtain ⟨r, h1, h2, hr⟩ := both_TwoPartOrder (l.map cvFlowJob) hm
    have e0 : ¬ (1 + (r.1.length : Int) < 0) := by omega
    refine Ev.bind (toFlowJobS l h0) ?_
    refine Ev.bind h1 ?_
    refine Ev.bind (toFlowJobS l h0) ?_
    refine Ev.bind h2 ?_
    refine Ev.bind (eqInt64S _ (by omega)) ?_
    simp only [if_true, bne_self_eq_false]
    refine Ev.step (fun k => by rw [laws_FnExactTwoPartOrder.j0]) ?_
    simp only [Bool.false_eq_true, if_false]
    refine Ev.bind (toFlowJobS l h0) ?_
    refine Ev.bind (eqFlowJobS _ (by omega)) ?_
    simp only [if_true]
    refine Ev.bind (markFlowJobS _ 1 (by omega) (by omega) (by omega)) ?_
    simp only [if_neg (show ¬ (1 + 2 * ((l.map cvFlowJob).length : Int) < 0) by omega)]
    refine Ev.bind (eqInt64S _ (by omega)) ?_
    simp only [if_true, bne_self_eq_false]
    refine Ev.step (fun k => by rw [laws_FnExactTwoPartOrder.j1]) ?_
    simp only [Bool.false_eq_true, if_false]
    refine Ev.bind (markInt64S _ 1 (by omega) (by omega) (by omega)) ?_
    refine Ev.bind (heldInt64S _ 1 (by omega) (by omega)) ?_
    simp only [if_neg e0, if_true]
    refine Ev.bind (toFlowJobS l h0) ?_
    refine Ev.bind h2 ?_
    refine Ev.bind (eqInt64S _ (by omega)) ?_
    simp only [if_true, bne_self_eq_false]
    refine Ev.step (fun k => by rw [laws_FnExactTwoPartOrder.j2]) ?_
    simp only [Bool.false_eq_true, if_false]
    refine Ev.bind (heldInt64S _ 1 (by omega) (by omega)) ?_
    simp only [if_neg e0, if_true]
    exact Ev.now _

end Go.Proofs.Ytefnoiajfjbbpaa.Pure
