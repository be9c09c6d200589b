/- The pure statement of law FnExactFamilyOrder: what the printed functions compute answers true at every input. No condition. -/
import Derived.Test.YtcieonfpmchdkaaPFnExactFamilyOrderx9
set_option linter.unusedVariables false
set_option linter.unusedSimpArgs false
namespace Go.Proofs.Ytcieonfpmchdkaa.Pure
open Go.RowKit Go.Proofs.Ytcieonfpmchdkaa.PFnExactFamilyOrder Go.Proofs.YtcieonfpmchdkaaW.PrintWords Go.Proofs.YtcieonfpmchdkaaW.PrintLast Go.Proofs.YtcieonfpmchdkaaW.PrintMore


/-! #### Numbers and rounds -/
theorem w64 {x : Int} (h1 : -9223372036854775808 ≤ x) (h2 : x ≤ 9223372036854775807) : wrap64 x = x := by
  unfold wrap64
  omega
theorem wf64 {x : Int} (h : (Lit.int .i64 x).wf = true) : -9223372036854775808 ≤ x ∧ x ≤ 9223372036854775807 := by
  simp only [Lit.wf, IntKind.min, IntKind.max, IntKind.signed, IntKind.bits, Bool.and_eq_true, decide_eq_true_eq, if_true] at h
  omega
theorem ev_of {α : Type} {g : Nat → Option α} {r : α} (h : ∀ k, g k = some r) : Ev g r := ⟨0, fun k _ => h k⟩
theorem ev_eq {α : Type} {g : Nat → Option α} {r r' : α} (h : Ev g r) (e : r = r') : Ev g r' := e ▸ h
/-- A loop over a list: what lies behind, what lies ahead. -/
theorem loop_list {α : Type} (l : List α) (Q : List α → List α → Prop) (h0 : Q l []) (hs : ∀ p x s, l = p ++ x :: s → Q (p ++ [x]) s → Q p (x :: s)) : Q [] l := by
  have h : ∀ s p, l = p ++ s → Q p s := by
    intro s
    induction s with
    | nil => intro p hp; rw [List.append_nil] at hp; rw [← hp]; exact h0
    | cons x s ih => intro p hp; exact hs p x s hp (ih (p ++ [x]) (by simp [hp]))
  exact h l [] rfl
theorem mid_lt {α : Type} {l p s : List α} {x : α} (h : l = p ++ x :: s) : (p.length : Int) < (l.length : Int) := by
  rw [h, List.length_append, List.length_cons]; omega
theorem mid_next {α : Type} {l p s : List α} {x : α} (h : l = p ++ x :: s) (hl : l.length ≤ 9223372036854775807) : wrap64 ((p.length : Int) + 1) = ((p ++ [x]).length : Int) := by
  have := mid_lt h
  rw [w64 (by omega) (by omega), List.length_append]; simp
theorem mid_get {α : Type} {l p s : List α} {x : α} (h : l = p ++ x :: s) (z : α) : l.getD (p.length : Int).toNat z = x := by
  rw [h]; simp
theorem get_mid {α : Type} (p s : List α) (x z : α) : (p ++ x :: s).getD (p.length : Int).toNat z = x := by simp
theorem nat_nn (n : Nat) : (0 : Int) ≤ (n : Int) := by omega
theorem nlt_self {α : Type} (l : List α) : ¬ ((l.length : Int) < (l.length : Int)) := by omega
theorem set_mid {α : Type} (p s : List α) (x y : α) : (p ++ x :: s).set ((p.length : Int).toNat) y = p ++ y :: s := by
  rw [Int.toNat_natCast, List.set_append_right _ _ (Nat.le_refl _)]; simp
theorem nil_or_snoc {α : Type} (p : List α) : p = [] ∨ ∃ q y, p = q ++ [y] := by
  rcases List.eq_nil_or_concat p with h | ⟨q, y, h⟩
  · exact .inl h
  · exact .inr ⟨q, y, by rw [h, List.concat_eq_append]⟩
theorem loop_all {α : Type} (l : List α) (Q : List α → List α → Prop) (h0 : Q l []) (hs : ∀ p x s, l = p ++ x :: s → Q (p ++ [x]) s → Q p (x :: s)) : ∀ s p, l = p ++ s → Q p s := by
  intro s
  induction s with
  | nil => intro p hp; rw [List.append_nil] at hp; rw [← hp]; exact h0
  | cons x s ih => intro p hp; exact hs p x s hp (ih (p ++ [x]) (by simp [hp]))
theorem szShopJob (l : List S65) (a : Int) (ha : 0 ≤ a) (hb : a ≤ 1048576) (h : l.length ≤ 9000000000000000000) : laws_szShopJobS.f l a = some (if a - l.length < 0 then (-1 : Int) else a - l.length) := by
  unfold laws_szShopJobS.f
  rw [w64 (by omega) (by omega)]
  split <;> rfl
def cvShopJob (x : S65) : S56 := ⟨x.f0, x.f1, x.f2⟩
theorem toShopJobS (l : List S65) (h : l.length ≤ 1048576) : Ev (fun k => laws_toShopJobS.f k l) (l.map cvShopJob) := by
  have H := loop_list l (fun p s => ∀ (a t : List S56), a.length = p.length → t.length = s.length → Ev (fun k => laws_toShopJobS.l0 k l (a ++ t) (p.length : Int)) (a ++ s.map cvShopJob)) ?_ ?_
  · have := H [] (List.replicate l.length z56) rfl (by simp)
    simp only [laws_toShopJobS.f, Int.toNat_natCast, if_pos (nat_nn l.length)]
    rw [show (fun k => if l.length ≤ _ then _ else _) = (fun k => laws_toShopJobS.l0 k l (List.replicate l.length z56) 0) from funext fun k => if_pos (by omega)]
    simpa using this
  · intro a t ha ht
    refine Ev.step (fun k => by rw [laws_toShopJobS.l0]) ?_
    simp only [if_neg (nlt_self l)]
    have : t = [] := List.eq_nil_of_length_eq_zero (by simpa using ht)
    subst this
    exact Ev.now _
  · intro p x s he ih a t ha ht
    obtain ⟨y, t, rfl⟩ : ∃ y t', t = y :: t' := by cases t with | nil => simp at ht | cons y t => exact ⟨y, t, rfl⟩
    refine Ev.step (fun k => by rw [laws_toShopJobS.l0]) ?_
    have e : ((p.length : Int) < ((a ++ y :: t).length : Int)) := by simp; omega
    have e2 := set_mid a t y (cvShopJob x)
    rw [ha] at e2
    simp only [if_pos (mid_lt he), if_pos (nat_nn p.length), laws_toShopJob.f, Option.bind_some, if_pos e, mid_next he (by omega), rd_T65, mid_get he]
    have := ih (a ++ [cvShopJob x]) t (by simp [ha]) (by simpa using ht)
    simp only [cvShopJob, List.append_assoc, List.singleton_append, List.map_cons] at this e2 ⊢
    rw [e2]
    exact this
theorem eqShopJobS (l : List S56) (h : l.length ≤ 9000000000000000000) : Ev (fun k => laws_eqShopJobS.f k l l) true := by
  simp only [laws_eqShopJobS.f, if_true]
  refine loop_list l (fun p s => Ev (fun k => laws_eqShopJobS.l0 k l l (p.length : Int)) true) ?_ ?_
  · refine Ev.step (fun k => by rw [laws_eqShopJobS.l0]) ?_
    simp only [if_neg (nlt_self l)]
    exact Ev.now _
  · intro p x s he ih
    refine Ev.step (fun k => by rw [laws_eqShopJobS.l0]) ?_
    simp only [if_pos (mid_lt he), if_pos (nat_nn p.length), laws_eqShopJob.f, if_true, Option.bind_some, mid_next he (by omega)]
    exact ih
/-- Structs that hold the numbers from m on. -/
def numsShopJob (m : Int) : Nat → List S56
  | 0 => []
  | n + 1 => ⟨m, m + 1, m + 2⟩ :: numsShopJob (m + 3) n
theorem numsShopJob_length (n : Nat) : ∀ m, (numsShopJob m n).length = n := by
  induction n with
  | zero => intro m; rfl
  | succ n ih => intro m; simp [numsShopJob, ih]
theorem markShopJobS (l : List S56) (m : Int) (hm : 0 ≤ m) (hb : m ≤ 1000000000000) (h : l.length ≤ 9000000000000) : Ev (fun k => laws_markShopJobS.f k l m) (m + 3 * (l.length : Int), numsShopJob m l.length) := by
  have H : ∀ (t a : List S56) (m : Int), 0 ≤ m → m + 3 * (t.length : Int) ≤ 1000000000000000 → a.length + t.length ≤ 9000000000000 → Ev (fun k => laws_markShopJobS.l0 k (a ++ t) m (a.length : Int)) (m + 3 * (t.length : Int), a ++ numsShopJob m t.length) := by
    intro t
    induction t with
    | nil =>
      intro a m hm hb ha
      refine Ev.step (fun k => by rw [laws_markShopJobS.l0]) ?_
      simp only [List.append_nil, if_neg (nlt_self a), List.length_nil, numsShopJob]
      exact ev_eq (Ev.now _) (by simp)
    | cons x t ih =>
      intro a m hm hb ha
      simp only [List.length_cons] at hb ha
      refine Ev.step (fun k => by rw [laws_markShopJobS.l0]) ?_
      have e : ((a.length : Int) < ((a ++ x :: t).length : Int)) := by simp; omega
      simp only [if_pos e, if_pos (nat_nn a.length), set_mid, Option.bind_some, rd_T56, get_mid, w64 (x := m + 1) (by omega) (by omega), w64 (x := m + 2) (by omega) (by omega), (show m + 1 + 1 = m + 2 from by omega), w64 (x := m + 3) (by omega) (by omega), (show m + 2 + 1 = m + 3 from by omega), w64 (x := (a.length : Int) + 1) (by omega) (by omega)]
      have := ih (a ++ [⟨m, m + 1, m + 2⟩]) (m + 3) (by omega) (by omega) (by simp; omega)
      simp only [List.append_assoc, List.singleton_append, List.length_append, List.length_singleton] at this
      rw [show ((a.length + 1 : Nat) : Int) = (a.length : Int) + 1 by omega] at this
      refine ev_eq this ?_
      simp only [List.length_cons, numsShopJob, Prod.mk.injEq, and_true]
      omega
  have := H l [] m hm (by omega) (by simpa using h)
  simpa [laws_markShopJobS.f] using this
theorem eqInt64S (l : List Int) (h : l.length ≤ 9000000000000000000) : Ev (fun k => laws_eqInt64S.f k l l) true := by
  simp only [laws_eqInt64S.f, if_true]
  refine loop_list l (fun p s => Ev (fun k => laws_eqInt64S.l0 k l l (p.length : Int)) true) ?_ ?_
  · refine Ev.step (fun k => by rw [laws_eqInt64S.l0]) ?_
    simp only [if_neg (nlt_self l)]
    exact Ev.now _
  · intro p x s he ih
    refine Ev.step (fun k => by rw [laws_eqInt64S.l0]) ?_
    simp only [if_pos (mid_lt he), if_pos (nat_nn p.length), if_true, mid_next he (by omega)]
    exact ih
/-- The numbers from m on. -/
def numsI (m : Int) : Nat → List Int
  | 0 => []
  | n + 1 => m :: numsI (m + 1) n
theorem numsI_length (n : Nat) : ∀ m, (numsI m n).length = n := by
  induction n with
  | zero => intro m; rfl
  | succ n ih => intro m; simp [numsI, ih]
theorem markInt64S (l : List Int) (m : Int) (hm : 0 ≤ m) (hb : m ≤ 1000000000000) (h : l.length ≤ 9000000000000) : Ev (fun k => laws_markInt64S.f k l m) (m + (l.length : Int), numsI m l.length) := by
  have H : ∀ (t a : List Int) (m : Int), 0 ≤ m → m + (t.length : Int) ≤ 1000000000000000 → a.length + t.length ≤ 9000000000000 → Ev (fun k => laws_markInt64S.l0 k (a ++ t) m (a.length : Int)) (m + (t.length : Int), a ++ numsI m t.length) := by
    intro t
    induction t with
    | nil =>
      intro a m hm hb ha
      refine Ev.step (fun k => by rw [laws_markInt64S.l0]) ?_
      simp only [List.append_nil, if_neg (nlt_self a), List.length_nil, numsI]
      exact ev_eq (Ev.now _) (by simp)
    | cons x t ih =>
      intro a m hm hb ha
      simp only [List.length_cons] at hb ha
      refine Ev.step (fun k => by rw [laws_markInt64S.l0]) ?_
      have e : ((a.length : Int) < ((a ++ x :: t).length : Int)) := by simp; omega
      simp only [if_pos e, if_pos (nat_nn a.length), set_mid, w64 (x := m + 1) (by omega) (by omega), w64 (x := (a.length : Int) + 1) (by omega) (by omega)]
      have := ih (a ++ [m]) (m + 1) (by omega) (by omega) (by simp; omega)
      simp only [List.append_assoc, List.singleton_append, List.length_append, List.length_singleton] at this
      rw [show ((a.length + 1 : Nat) : Int) = (a.length : Int) + 1 by omega] at this
      refine ev_eq this ?_
      simp only [List.length_cons, numsI, Prod.mk.injEq, and_true]
      omega
  have := H l [] m hm (by omega) (by simpa using h)
  simpa [laws_markInt64S.f] using this
theorem heldInt64S (n : Nat) (m : Int) (hm : 0 ≤ m) (hb : m + (n : Int) ≤ 1000000000000000) : Ev (fun k => laws_heldInt64S.f k (numsI m n) m) (m + (n : Int)) := by
  have H := loop_list (numsI m n) (fun p s => ∀ q : Int, 0 ≤ q → q + (s.length : Int) ≤ 1000000000000000 → s = numsI q s.length → Ev (fun k => laws_heldInt64S.l0 k (numsI m n) q (p.length : Int)) (q + (s.length : Int))) ?_ ?_
  · have := H m hm (by rw [numsI_length]; omega) (by rw [numsI_length])
    rw [numsI_length] at this
    exact this
  · intro q h0 h1 hs
    refine Ev.step (fun k => by rw [laws_heldInt64S.l0]) ?_
    simp only [if_neg (nlt_self (numsI m n))]
    exact ev_eq (Ev.now _) (by simp)
  · intro p x s he ih q h0 h1 hs
    simp only [List.length_cons] at h1 hs
    rw [numsI] at hs
    obtain ⟨rfl, hs⟩ := List.cons.inj hs
    refine Ev.step (fun k => by rw [laws_heldInt64S.l0]) ?_
    have hl : (numsI m n).length ≤ 1000000000000000 := by rw [numsI_length]; omega
    have hx : rd (numsI m n) (p.length : Int) = x := mid_get he 0
    simp only [if_pos (mid_lt he), if_pos (nat_nn p.length), hx, if_true, mid_next he (by omega), w64 (x := x + 1) (by omega) (by omega)]
    refine ev_eq (ih (x + 1) (by omega) (by omega) hs) ?_
    simp only [List.length_cons]
    omega
def inR (a lo hi : Int) : Bool := decide (lo ≤ a) && decide (a ≤ hi)
theorem inR_iff {a lo hi : Int} : inR a lo hi = true ↔ lo ≤ a ∧ a ≤ hi := by simp [inR]
theorem l01In (a lo hi : Int) : spec_l01In.f a lo hi = some (inR a lo hi) := by
  unfold spec_l01In.f inR
  split
  · rename_i h; rw [decide_eq_true (show lo ≤ a from h), Bool.true_and]
  · rename_i h; rw [decide_eq_false (show ¬ lo ≤ a from h), Bool.false_and]
theorem inRange (a lo hi : Int) : impl_inRange.f a lo hi = some (inR a lo hi) := by
  unfold impl_inRange.f inR
  split
  · rename_i h; rw [decide_eq_true (show lo ≤ a from h), Bool.true_and]
  · rename_i h; rw [decide_eq_false (show ¬ lo ≤ a from h), Bool.false_and]
def okShop (x : S56) : Bool := inR x.f0 0 9 && (inR x.f1 0 100000 && inR x.f2 0 100000)
def shopB (a : Int) (l : List S56) : Bool := l.all okShop && (inR a 0 100000 && decide (l.length ≤ 7))
theorem spec_IsShop (a : Int) (l : List S56) (h : l.length ≤ 1048576) : Ev (fun k => spec_IsShop.f k a l) (shopB a l) := by
  refine loop_list l (fun p s => Ev (fun k => spec_IsShop.l0 k a l (p.length : Int)) (s.all okShop && (inR a 0 100000 && decide (l.length ≤ 7)))) ?_ ?_
  · refine Ev.step (fun k => by rw [spec_IsShop.l0]) ?_
    simp only [if_neg (nlt_self l), List.all_nil, Bool.true_and, l01In, Option.bind_some]
    cases inR a 0 100000 <;> simp <;> first | exact Ev.now _ | exact ev_eq (Ev.now _) (decide_eq_decide.2 (by omega))
  · intro p x s he ih
    refine Ev.step (fun k => by rw [spec_IsShop.l0]) ?_
    simp only [if_pos (mid_lt he), if_pos (nat_nn p.length), mid_next he (by omega), rd_T56, mid_get he, l01In, Option.bind_some, List.all_cons]
    cases h0 : inR x.f0 0 9 <;> cases h1 : inR x.f1 0 100000 <;> cases h2 : inR x.f2 0 100000 <;> simp [okShop, h0, h1, h2] <;> first | exact Ev.now _ | simpa [mid_next he (by omega)] using ih
theorem impl_IsShop_1_ok (x : S56) : impl_IsShop_1.f x.f0 x.f1 x.f2 = some (!(okShop x)) := by
  simp only [impl_IsShop_1.f, impl_isMinutes.f, inRange, Option.bind_some, okShop]
  cases inR x.f0 0 9 <;> cases inR x.f1 0 100000 <;> cases inR x.f2 0 100000 <;> rfl
theorem contains_impl_IsShop_1 (l : List S56) (h : l.length ≤ 1048576) : Ev (fun k => slices_ContainsFunc_at_impl_IsShop_1.f k l) (!(l.all okShop)) := by
  have H := loop_list l (fun p s => ∃ r, Ev (fun k => slices_IndexFunc_at_impl_IsShop_1.l0 k l (l.length : Int) (p.length : Int)) r ∧ decide (r ≥ 0) = !(s.all okShop)) ?_ ?_
  · obtain ⟨r, hr, e⟩ := H
    rw [← e]
    exact Ev.bind hr (Ev.now _)
  · refine ⟨-1, Ev.step (fun k => by rw [slices_IndexFunc_at_impl_IsShop_1.l0]) ?_, by simp⟩
    simp only [if_neg (nlt_self l)]
    exact Ev.now _
  · rintro p x s he ⟨r, ih, e⟩
    by_cases hx : okShop x = true
    · refine ⟨r, Ev.step (fun k => by rw [slices_IndexFunc_at_impl_IsShop_1.l0]) ?_, by rw [e]; simp [hx]⟩
      simp only [if_pos (mid_lt he), if_pos (nat_nn p.length), rd_T56, mid_get he, impl_IsShop_1_ok, hx, Option.bind_some, mid_next he (by omega)]
      exact ih
    · refine ⟨(p.length : Int), Ev.step (fun k => by rw [slices_IndexFunc_at_impl_IsShop_1.l0]) ?_, by simp [hx]⟩
      simp only [if_pos (mid_lt he), if_pos (nat_nn p.length), rd_T56, mid_get he, impl_IsShop_1_ok, Bool.eq_false_iff.2 hx, Option.bind_some]
      exact Ev.now _
theorem impl_IsShop (a : Int) (l : List S56) (h : l.length ≤ 1048576) : Ev (fun k => impl_IsShop.f k a l) (shopB a l) := by
  simp only [impl_IsShop.f, impl_isMinutes.f, inRange, Option.bind_some, shopB]
  cases inR a 0 100000
  · simp only [Bool.false_eq_true, if_false, Bool.false_and, Bool.and_false]
    exact Ev.now _
  · by_cases hl : (l.length : Int) ≤ 7
    · simp only [if_pos hl, if_true]
      exact ev_eq (Ev.bind (contains_impl_IsShop_1 l h) (Ev.now _)) (by simp [show l.length ≤ 7 by omega])
    · simp only [if_neg hl, if_true]
      exact ev_eq (Ev.now _) (by simp [show ¬ l.length ≤ 7 by omega])

/-- A number put ahead of the first that it is less than. -/
def insF (lt : Int → Int → Bool) (x : Int) : List Int → List Int
  | [] => [x]
  | y :: t => if lt x y = true then x :: y :: t else y :: insF lt x t
def sortF (lt : Int → Int → Bool) : Nat → List Int
  | 0 => []
  | n + 1 => insF lt (n : Int) (sortF lt n)
/-- None is less than one ahead of it. -/
def srtd (lt : Int → Int → Bool) (p : List Int) : Prop := ∀ u y v, p = u ++ y :: v → ∀ z ∈ v, lt z y = false
theorem insF_length (lt : Int → Int → Bool) (x : Int) (p : List Int) : (insF lt x p).length = p.length + 1 := by
  induction p with
  | nil => rfl
  | cons y p ih => simp only [insF]; split <;> simp [ih]
theorem sortF_length (lt : Int → Int → Bool) (n : Nat) : (sortF lt n).length = n := by
  induction n with
  | zero => rfl
  | succ n ih => simp [sortF, insF_length, ih]
theorem insF_mem {lt : Int → Int → Bool} {x z : Int} : ∀ {p : List Int}, z ∈ insF lt x p ↔ z = x ∨ z ∈ p := by
  intro p
  induction p with
  | nil => simp [insF]
  | cons y p ih =>
    simp only [insF]
    split
    · simp
    · simp only [List.mem_cons, ih]
      constructor
      · rintro (h | h | h)
        · exact Or.inr (Or.inl h)
        · exact Or.inl h
        · exact Or.inr (Or.inr h)
      · rintro (h | h | h)
        · exact Or.inr (Or.inl h)
        · exact Or.inl h
        · exact Or.inr (Or.inr h)
theorem sortF_mem {lt : Int → Int → Bool} : ∀ {n : Nat} {z : Int}, z ∈ sortF lt n → 0 ≤ z ∧ z < (n : Int) := by
  intro n
  induction n with
  | zero => intro z h; cases h
  | succ n ih =>
    intro z h
    rcases insF_mem.1 h with rfl | h
    · omega
    · have := ih h; omega
theorem srtd_cons {lt : Int → Int → Bool} {y : Int} {p : List Int} : srtd lt (y :: p) ↔ (∀ z ∈ p, lt z y = false) ∧ srtd lt p := by
  constructor
  · intro h
    exact ⟨h [] y p rfl, fun u w v e => h (y :: u) w v (by rw [e]; rfl)⟩
  · rintro ⟨h1, h2⟩ u w v e
    cases u with
    | nil => simp only [List.nil_append, List.cons.injEq] at e; obtain ⟨rfl, rfl⟩ := e; exact h1
    | cons q u => simp only [List.cons_append, List.cons.injEq] at e; exact h2 u w v e.2
theorem insF_srtd {lt : Int → Int → Bool} (hO : ∀ x y z, lt x y = true → lt z y = false → lt x z = true) (hA : ∀ x y, lt x y = true → lt y x = false) (x : Int) : ∀ p, srtd lt p → srtd lt (insF lt x p) := by
  intro p
  induction p with
  | nil => intro _; exact srtd_cons.2 ⟨fun z hz => (by cases hz), fun u y v e => (by simp at e)⟩
  | cons y p ih =>
    intro h
    obtain ⟨h1, h2⟩ := srtd_cons.1 h
    simp only [insF]
    by_cases hx : lt x y = true
    · rw [if_pos hx]
      refine srtd_cons.2 ⟨fun z hz => ?_, h⟩
      rcases List.mem_cons.1 hz with rfl | hz
      · exact hA _ _ hx
      · exact hA _ _ (hO x y z hx (h1 z hz))
    · rw [if_neg hx]
      refine srtd_cons.2 ⟨fun z hz => ?_, ih h2⟩
      rcases insF_mem.1 hz with rfl | hz
      · exact Bool.eq_false_iff.2 hx
      · exact h1 z hz
theorem sortF_srtd {lt : Int → Int → Bool} (hO : ∀ x y z, lt x y = true → lt z y = false → lt x z = true) (hA : ∀ x y, lt x y = true → lt y x = false) (n : Nat) : srtd lt (sortF lt n) := by
  induction n with
  | zero => intro u y v e; simp [sortF] at e
  | succ n ih => exact insF_srtd hO hA _ _ ih
theorem insF_at {lt : Int → Int → Bool} {x : Int} : ∀ (u v : List Int), (∀ w ∈ u, lt x w = false) → (v = [] ∨ ∃ y t, v = y :: t ∧ lt x y = true) → insF lt x (u ++ v) = u ++ x :: v := by
  intro u
  induction u with
  | nil =>
    rintro v _ (rfl | ⟨y, t, rfl, h⟩)
    · rfl
    · simp only [List.nil_append, insF, if_pos h]
  | cons w u ih =>
    intro v h1 h2
    simp only [List.cons_append, insF, if_neg (Bool.eq_false_iff.1 (h1 w (by simp))), ih v (fun z hz => h1 z (by simp [hz])) h2]
theorem srtd_all {lt : Int → Int → Bool} (hO : ∀ x y z, lt x y = true → lt z y = false → lt x z = true) {x y : Int} {u v : List Int} (h : srtd lt (u ++ y :: v)) (hy : lt x y = false) : ∀ w ∈ u ++ [y], lt x w = false := by
  intro w hw
  rcases List.mem_append.1 hw with hw | hw
  · obtain ⟨a, b, rfl⟩ := List.append_of_mem hw
    have := h a w (b ++ y :: v) (by simp) y (by simp)
    cases e : lt x w
    · rfl
    · rw [hO x w y e this] at hy; cases hy
  · have : w = y := by simpa using hw
    rw [this]; exact hy
theorem ins_impl_FamilyOrder_1 {l : List S56} {lt : Int → Int → Bool} (hcmp : ∀ a b : Int, 0 ≤ a → a < (l.length : Int) → 0 ≤ b → b < (l.length : Int) → ∃ t : Int, Ev (fun k => impl_FamilyOrder_1.f k a b l) t ∧ (t < 0 ↔ lt a b = true)) (hO : ∀ x y z, lt x y = true → lt z y = false → lt x z = true)
    {x : Int} (hx0 : 0 ≤ x) (hx1 : x < (l.length : Int)) (n i : Int) {r : List Int} (rest : List Int) : ∀ (d : Nat) (u v : List Int), u.length = d → (u ++ v).length + rest.length ≤ 1000000 → srtd lt (u ++ v) → (∀ z ∈ u ++ v, 0 ≤ z ∧ z < (l.length : Int)) → (v = [] ∨ ∃ y t, v = y :: t ∧ lt x y = true) →
    Ev (fun k => slices_insertionSortCmpFunc_at_impl_FamilyOrder_1.l0 k (insF lt x (u ++ v) ++ rest) 0 n l (wrap64 (i + 1))) r → Ev (fun k => slices_insertionSortCmpFunc_at_impl_FamilyOrder_1.l1 k (u ++ x :: (v ++ rest)) 0 n l i (u.length : Int)) r := by
  intro d
  induction d with
  | zero =>
    intro u v hu hl hs hm hv h
    have : u = [] := List.eq_nil_of_length_eq_zero hu
    subst this
    rw [insF_at [] v (fun w hw => by cases hw) hv] at h
    refine Ev.step (fun k => by rw [slices_insertionSortCmpFunc_at_impl_FamilyOrder_1.l1]) ?_
    simp only [if_neg (show ¬ (((([] : List Int).length : Nat) : Int) > 0) by simp)]
    simpa using h
  | succ d ih =>
    intro u v hu hl hs hm hv h
    rcases nil_or_snoc u with rfl | ⟨u, y, rfl⟩
    · simp at hu
    · have hul : u.length = d := by simpa using hu
      have hy := hm y (by simp)
      have hpl : ((u ++ [y]).length : Int) = (u.length : Int) + 1 := by simp
      have hlen : ((u ++ [y] ++ x :: (v ++ rest)).length : Int) = (u.length : Int) + 2 + (v.length : Int) + (rest.length : Int) := by simp; omega
      have hl' : u.length + 1 + v.length + rest.length ≤ 1000000 := by simpa [Nat.add_assoc, Nat.add_comm, Nat.add_left_comm] using hl
      have e1 : wrap64 ((u.length : Int) + 1 - 1) = (u.length : Int) := by rw [show (u.length : Int) + 1 - 1 = (u.length : Int) by omega]; exact w64 (by omega) (by omega)
      have g1 : rd (u ++ [y] ++ x :: (v ++ rest)) ((u.length : Int) + 1) = x := by
        rw [← hpl]; exact get_mid _ _ _ 0
      have g2 : rd (u ++ [y] ++ x :: (v ++ rest)) (u.length : Int) = y := by
        rw [show u ++ [y] ++ x :: (v ++ rest) = u ++ y :: (x :: (v ++ rest)) by simp]; exact get_mid _ _ _ 0
      obtain ⟨t, ht, hlt⟩ := hcmp x y hx0 hx1 hy.1 hy.2
      refine Ev.step (fun k => by rw [slices_insertionSortCmpFunc_at_impl_FamilyOrder_1.l1]) ?_
      simp only [hpl, if_pos (show (u.length : Int) + 1 > 0 by omega), if_pos (show 0 ≤ (u.length : Int) + 1 by omega), hlen, if_pos (show (u.length : Int) + 1 < (u.length : Int) + 2 + (v.length : Int) + (rest.length : Int) by omega), e1, if_pos (nat_nn u.length), if_pos (show (u.length : Int) < (u.length : Int) + 2 + (v.length : Int) + (rest.length : Int) by omega), g1, g2]
      refine Ev.bind ht ?_
      by_cases hc : lt x y = true
      · simp only [if_pos (hlt.2 hc)]
        have s1 : ((u ++ [y] ++ x :: (v ++ rest)).set (((u.length : Int) + 1)).toNat y).set ((u.length : Int)).toNat x = u ++ x :: ((y :: v) ++ rest) := by
          rw [← hpl, set_mid, show u ++ [y] ++ y :: (v ++ rest) = u ++ y :: (y :: (v ++ rest)) by simp, set_mid]
          simp
        rw [s1]
        refine ih u (y :: v) hul (by simpa [Nat.add_assoc, Nat.add_comm, Nat.add_left_comm] using hl) (by simpa using hs) (fun z hz => hm z (by simpa using hz)) (Or.inr ⟨y, v, rfl, hc⟩) ?_
        simpa using h
      · have hc' := Bool.eq_false_iff.2 hc
        simp only [if_neg (fun h => hc (hlt.1 h))]
        rw [insF_at (u ++ [y]) v (srtd_all hO (by simpa using hs) hc') hv] at h
        simpa using h
theorem sort_impl_FamilyOrder_1 {l : List S56} {lt : Int → Int → Bool} (hcmp : ∀ a b : Int, 0 ≤ a → a < (l.length : Int) → 0 ≤ b → b < (l.length : Int) → ∃ t : Int, Ev (fun k => impl_FamilyOrder_1.f k a b l) t ∧ (t < 0 ↔ lt a b = true)) (hO : ∀ x y z, lt x y = true → lt z y = false → lt x z = true) (hA : ∀ x y, lt x y = true → lt y x = false)
    : ∀ (m i : Nat), i + m = l.length → l.length ≤ 1000 → Ev (fun k => slices_insertionSortCmpFunc_at_impl_FamilyOrder_1.l0 k (sortF lt i ++ numsI (i : Int) m) 0 (l.length : Int) l (i : Int)) (sortF lt l.length) := by
  intro m
  induction m with
  | zero =>
    intro i hi hl
    have : i = l.length := by omega
    subst this
    refine Ev.step (fun k => by rw [slices_insertionSortCmpFunc_at_impl_FamilyOrder_1.l0]) ?_
    simp only [if_neg (nlt_self l), numsI, List.append_nil]
    exact Ev.now _
  | succ m ih =>
    intro i hi hl
    refine Ev.step (fun k => by rw [slices_insertionSortCmpFunc_at_impl_FamilyOrder_1.l0]) ?_
    simp only [if_pos (show (i : Int) < (l.length : Int) by omega), numsI]
    have hn := ih (i + 1) (by omega) hl
    have := ins_impl_FamilyOrder_1 hcmp hO (x := (i : Int)) (by omega) (by omega) (l.length : Int) (i : Int) (r := sortF lt l.length) (numsI ((i : Int) + 1) m) i (sortF lt i) [] (sortF_length lt i) (by simp [sortF_length, numsI_length]; omega) (by simpa using sortF_srtd hO hA i) (fun z hz => by
      have := sortF_mem (by simpa using hz : z ∈ sortF lt i)
      omega) (Or.inl rfl) (by
      rw [w64 (by omega) (by omega), List.append_nil]
      have e : ((i + 1 : Nat) : Int) = (i : Int) + 1 := by omega
      rw [e] at hn
      exact hn)
    rw [sortF_length] at this
    simpa using this
theorem sorted_impl_FamilyOrder_1 {l : List S56} {lt : Int → Int → Bool} (hcmp : ∀ a b : Int, 0 ≤ a → a < (l.length : Int) → 0 ≤ b → b < (l.length : Int) → ∃ t : Int, Ev (fun k => impl_FamilyOrder_1.f k a b l) t ∧ (t < 0 ↔ lt a b = true)) (hO : ∀ x y z, lt x y = true → lt z y = false → lt x z = true) (hA : ∀ x y, lt x y = true → lt y x = false)
    (h7 : l.length ≤ 7) : Ev (fun k => impl_sortedBy_at_impl_FamilyOrder_1.f k (l.length : Int) l) (sortF lt l.length) := by
  have hs : Ev (fun k => slices_SortStableFunc_at_impl_FamilyOrder_1.f k (numsI 0 l.length) l) (sortF lt l.length) := by
    simp only [slices_SortStableFunc_at_impl_FamilyOrder_1.f]
    refine Ev.bind (a := sortF lt l.length) ?_ (Ev.now _)
    simp only [slices_stableCmpFunc_at_impl_FamilyOrder_1.f, numsI_length]
    refine Ev.step (fun k => by rw [slices_stableCmpFunc_at_impl_FamilyOrder_1.l0]) ?_
    simp only [if_neg (show ¬ ((20 : Int) ≤ (l.length : Int)) by omega)]
    refine Ev.bind (a := sortF lt l.length) ?_ ?_
    · simp only [slices_insertionSortCmpFunc_at_impl_FamilyOrder_1.f]
      rw [show wrap64 ((0 : Int) + 1) = ((1 : Nat) : Int) from w64 (by omega) (by omega)]
      by_cases h0 : l.length = 0
      · rw [h0]
        refine Ev.step (fun k => by rw [slices_insertionSortCmpFunc_at_impl_FamilyOrder_1.l0]) ?_
        simp only [if_neg (show ¬ (((1 : Nat) : Int) < ((0 : Nat) : Int)) by omega), numsI, sortF]
        exact Ev.now _
      · have := sort_impl_FamilyOrder_1 hcmp hO hA (l.length - 1) 1 (by omega) (by omega)
        have e : numsI 0 l.length = sortF lt 1 ++ numsI ((1 : Nat) : Int) (l.length - 1) := by
          rw [show l.length = (l.length - 1) + 1 by omega]
          simp [numsI, sortF, insF]
        rw [← e] at this
        exact this
    · refine Ev.step (fun k => by rw [slices_stableCmpFunc_at_impl_FamilyOrder_1.l1]) ?_
      simp only [if_neg (show ¬ ((20 : Int) < (l.length : Int)) by omega)]
      exact Ev.now _
  simp only [impl_sortedBy_at_impl_FamilyOrder_1.f]
  have H : ∀ (m : Nat) (acc : List Int) (i : Int), 0 ≤ i → i + (m : Int) = (l.length : Int) → (acc.length : Int) = i → acc ++ numsI i m = numsI 0 l.length → Ev (fun k => impl_sortedBy_at_impl_FamilyOrder_1.l0 k l acc (l.length : Int) i) (sortF lt l.length) := by
    intro m
    induction m with
    | zero =>
      intro acc i h0 hi ha he
      refine Ev.step (fun k => by rw [impl_sortedBy_at_impl_FamilyOrder_1.l0]) ?_
      simp only [if_neg (show ¬ (i < (l.length : Int)) by omega)]
      simp only [numsI, List.append_nil] at he
      rw [he]
      exact Ev.bind hs (Ev.now _)
    | succ m ih =>
      intro acc i h0 hi ha he
      refine Ev.step (fun k => by rw [impl_sortedBy_at_impl_FamilyOrder_1.l0]) ?_
      simp only [if_pos (show i < (l.length : Int) by omega), if_pos (show acc.length < 17592186044416 by omega), w64 (x := i + 1) (by omega) (by omega)]
      exact ih (acc ++ [i]) (i + 1) (by omega) (by omega) (by simp; omega) (by simpa [numsI] using he)
  exact H l.length [] 0 (by omega) (by omega) rfl rfl
/-- The least due time of a family. -/
def mapD (l : List S56) (a : Int) : Int := (firstM l a).getD 0
def minOf (a : Int) (l : List S56) (acc : Int) : Int := l.foldl (fun acc x => if x.f0 = a then mn acc x.f2 else acc) acc
theorem minOf_app (a : Int) (p : List S56) (x : S56) (acc : Int) : minOf a (p ++ [x]) acc = if x.f0 = a then mn (minOf a p acc) x.f2 else minOf a p acc := by simp [minOf, List.foldl_append]
theorem first_app (p : List S56) (x : S56) (a : Int) : firstM (p ++ [x]) a = if a = x.f0 then (match firstM p a with | none => some x.f2 | some d => if x.f2 < d then some x.f2 else some d) else firstM p a := by
  have e : firstM (p ++ [x]) = firstStep (firstM p) x := by simp [firstM, List.foldl_append]
  rw [e]
  rfl
theorem min_first (a : Int) : ∀ (n : Nat) (p : List S56), p.length = n → (firstM p a = none ∧ ∀ acc, minOf a p acc = acc) ∨ ∃ d, firstM p a = some d ∧ ∀ acc, minOf a p acc = mn acc d := by
  intro n
  induction n with
  | zero =>
    intro p hp
    rw [List.eq_nil_of_length_eq_zero hp]
    exact Or.inl ⟨rfl, fun _ => rfl⟩
  | succ n ih =>
    intro p hp
    rcases nil_or_snoc p with h | ⟨q, y, rfl⟩
    · subst h; simp at hp
    · have hq : q.length = n := by simpa using hp
      rcases ih q hq with ⟨h1, h2⟩ | ⟨d, h1, h2⟩
      · by_cases hy : a = y.f0
        · refine Or.inr ⟨y.f2, by rw [first_app, if_pos hy, h1], fun acc => by rw [minOf_app, if_pos hy.symm, h2]⟩
        · refine Or.inl ⟨by rw [first_app, if_neg hy, h1], fun acc => by rw [minOf_app, if_neg (fun e => hy e.symm), h2]⟩
      · by_cases hy : a = y.f0
        · by_cases hd : y.f2 < d
          · refine Or.inr ⟨y.f2, by rw [first_app, if_pos hy, h1]; simp [hd], fun acc => by rw [minOf_app, if_pos hy.symm, h2]; unfold mn; omega⟩
          · refine Or.inr ⟨d, by rw [first_app, if_pos hy, h1]; simp [hd], fun acc => by rw [minOf_app, if_pos hy.symm, h2]; unfold mn; omega⟩
        · refine Or.inr ⟨d, by rw [first_app, if_neg hy, h1], fun acc => by rw [minOf_app, if_neg (fun e => hy e.symm), h2]⟩
theorem first_mem : ∀ (n : Nat) (p : List S56), p.length = n → ∀ x ∈ p, ∃ d, firstM p x.f0 = some d ∧ d ≤ x.f2 := by
  intro n
  induction n with
  | zero =>
    intro p hp x hx
    rw [List.eq_nil_of_length_eq_zero hp] at hx
    cases hx
  | succ n ih =>
    intro p hp x hx
    rcases nil_or_snoc p with h | ⟨q, y, rfl⟩
    · subst h; simp at hp
    · have hq : q.length = n := by simpa using hp
      rw [first_app]
      rcases List.mem_append.1 hx with hx | hx
      · obtain ⟨d, h1, h2⟩ := ih q hq x hx
        by_cases hy : x.f0 = y.f0
        · rw [if_pos hy, h1]
          by_cases hd : y.f2 < d
          · exact ⟨y.f2, by simp [hd], by omega⟩
          · exact ⟨d, by simp [hd], h2⟩
        · rw [if_neg hy]
          exact ⟨d, h1, h2⟩
      · have hxy : x = y := by simpa using hx
        subst hxy
        rw [if_pos rfl]
        cases hf : firstM q x.f0 with
        | none => exact ⟨x.f2, rfl, Int.le_refl _⟩
        | some d =>
          by_cases hd : x.f2 < d
          · exact ⟨x.f2, by simp [hd], Int.le_refl _⟩
          · exact ⟨d, by simp [hd], by omega⟩
theorem min_mapD {l : List S56} {x : S56} (hx : x ∈ l) : minOf x.f0 l x.f2 = mapD l x.f0 := by
  obtain ⟨d, h1, h2⟩ := first_mem _ l rfl x hx
  rcases min_first x.f0 _ l rfl with ⟨h3, _⟩ | ⟨d', h3, h4⟩
  · rw [h3] at h1; cases h1
  · rw [h3] at h1
    obtain rfl := Option.some.inj h1
    rw [h4, mapD, h3]
    unfold mn
    simp only [Option.getD_some]
    omega
def ltF (l : List S56) (a b : Int) : Bool := decide (mapD l (rd_T56 l a).f0 < mapD l (rd_T56 l b).f0 ∨ mapD l (rd_T56 l a).f0 = mapD l (rd_T56 l b).f0 ∧ ((rd_T56 l a).f0 < (rd_T56 l b).f0 ∨ (rd_T56 l a).f0 = (rd_T56 l b).f0 ∧ (rd_T56 l a).f2 < (rd_T56 l b).f2))
theorem ltF_O (l : List S56) : ∀ x y z, ltF l x y = true → ltF l z y = false → ltF l x z = true := by
  intro x y z h1 h2
  simp only [ltF, decide_eq_true_eq, decide_eq_false_iff_not] at h1 h2 ⊢
  omega
theorem ltF_A (l : List S56) : ∀ x y, ltF l x y = true → ltF l y x = false := by
  intro x y h1
  simp only [ltF, decide_eq_true_eq, decide_eq_false_iff_not] at h1 ⊢
  omega
theorem cmpF (a b : Int) : ∃ t : Int, cmp_Compare_int64.f a b = some t ∧ (a < b ∧ t = -1 ∨ a = b ∧ t = 0 ∨ b < a ∧ t = 1) := by
  simp only [cmp_Compare_int64.f, cmp_isNaN_int64.f, Option.bind_some, bne_self_eq_false, Bool.false_eq_true, if_false]
  by_cases h : a < b
  · exact ⟨-1, by simp only [if_pos h], by omega⟩
  · by_cases h' : a > b
    · exact ⟨1, by simp only [if_neg h, if_pos h'], by omega⟩
    · exact ⟨0, by simp only [if_neg h, if_neg h'], by omega⟩
theorem or_three (a b c : Int) : Ev (fun k => cmp_Or_int.f k [a, b, c]) (if a = 0 then (if b = 0 then c else b) else a) := by
  simp only [cmp_Or_int.f]
  have r0 : rd [a, b, c] 0 = a := rfl
  have r1 : rd [a, b, c] 1 = b := rfl
  have r2 : rd [a, b, c] 2 = c := rfl
  have l3 : (([a, b, c] : List Int).length : Int) = 3 := rfl
  refine Ev.step (fun k => by rw [cmp_Or_int.l0]) ?_
  simp only [l3, r0, if_pos (show (0 : Int) < 3 by decide), if_pos (show (0 : Int) ≤ 0 by decide)]
  by_cases h0 : a = 0
  · simp only [if_pos h0, show wrap64 ((0 : Int) + 1) = 1 from w64 (by omega) (by omega)]
    refine Ev.step (fun k => by rw [cmp_Or_int.l0]) ?_
    simp only [l3, r1, if_pos (show (1 : Int) < 3 by decide), if_pos (show (0 : Int) ≤ 1 by decide)]
    by_cases h1 : b = 0
    · simp only [if_pos h1, show wrap64 ((1 : Int) + 1) = 2 from w64 (by omega) (by omega)]
      refine Ev.step (fun k => by rw [cmp_Or_int.l0]) ?_
      simp only [l3, r2, if_pos (show (2 : Int) < 3 by decide), if_pos (show (0 : Int) ≤ 2 by decide)]
      by_cases h2 : c = 0
      · simp only [if_pos h2, show wrap64 ((2 : Int) + 1) = 3 from w64 (by omega) (by omega)]
        refine Ev.step (fun k => by rw [cmp_Or_int.l0]) ?_
        simp only [l3, if_neg (show ¬ (3 : Int) < 3 by decide)]
        exact ev_eq (Ev.now _) h2.symm
      · simp only [if_neg h2]
        exact Ev.now _
    · simp only [if_neg h1]
      exact Ev.now _
  · simp only [if_neg h0]
    exact Ev.now _
theorem shop_at {l : List S56} (hok : ∀ x ∈ l, okShop x = true) {i : Int} (h0 : 0 ≤ i) (h1 : i < (l.length : Int)) : rd_T56 l i ∈ l ∧ (0 ≤ (rd_T56 l i).f0 ∧ (rd_T56 l i).f0 ≤ 9) := by
  have hi : i.toNat < l.length := by omega
  have hm : rd_T56 l i ∈ l := by
    unfold rd_T56
    rw [List.getD_eq_getElem?_getD, List.getElem?_eq_getElem hi]
    exact List.getElem_mem hi
  have := hok _ hm
  simp only [okShop, Bool.and_eq_true, inR_iff] at this
  exact ⟨hm, by omega⟩
theorem wf_small {x : Int} (h0 : 0 ≤ x) (h1 : x ≤ 1000000) : (Lit.int .i64 x).wf = true := by
  simp only [Lit.wf, IntKind.min, IntKind.max, IntKind.signed, IntKind.bits, Bool.and_eq_true, decide_eq_true_eq, if_true]
  omega
theorem cmp_fam (l : List S56) (hok : ∀ x ∈ l, okShop x = true) (a b : Int) (ha : 0 ≤ a) (ha1 : a < (l.length : Int)) (hb : 0 ≤ b) (hb1 : b < (l.length : Int)) : ∃ t : Int, Ev (fun k => impl_FamilyOrder_1.f k a b l) t ∧ (t < 0 ↔ ltF l a b = true) := by
  obtain ⟨_, ra⟩ := shop_at hok ha ha1
  obtain ⟨_, rb⟩ := shop_at hok hb hb1
  simp only [impl_FamilyOrder_1.f, if_pos ha, if_pos ha1, if_pos hb, if_pos hb1, ltF, mapAt.f, if_pos (wf_small ra.1 (by omega)), if_pos (wf_small rb.1 (by omega)), Option.bind_some]
  generalize rd_T56 l a = x
  generalize rd_T56 l b = y
  obtain ⟨t1, e1, g1⟩ := cmpF ((firstM l x.f0).getD 0) ((firstM l y.f0).getD 0)
  obtain ⟨t2, e2, g2⟩ := cmpF x.f0 y.f0
  obtain ⟨t3, e3, g3⟩ := cmpF x.f2 y.f2
  simp only [e1, e2, e3, Option.bind_some]
  refine ⟨_, Ev.bind (or_three t1 t2 t3) (Ev.now _), ?_⟩
  simp only [decide_eq_true_eq]
  simp only [mapD]
  constructor <;> intro hh <;> split at * <;> first | omega | (split at * <;> omega)
theorem less_three (a b c d e f : Int) : Ev (fun k => spec_l01Less.f k [a, b, c] [d, e, f]) (decide (a < d ∨ a = d ∧ (b < e ∨ b = e ∧ c < f))) := by
  simp only [spec_l01Less.f]
  have r0 : rd [a, b, c] 0 = a := rfl
  have r1 : rd [d, e, f] 0 = d := rfl
  have r2 : rd [a, b, c] 1 = b := rfl
  have r3 : rd [d, e, f] 1 = e := rfl
  have r4 : rd [a, b, c] 2 = c := rfl
  have r5 : rd [d, e, f] 2 = f := rfl
  have l2 : (([a, b, c] : List Int).length : Int) = 3 := rfl
  have l3 : (([d, e, f] : List Int).length : Int) = 3 := rfl
  refine Ev.step (fun k => by rw [spec_l01Less.l0]) ?_
  simp only [l2, l3, if_pos (show (0 : Int) < 3 by decide), decide_eq_true (show (0 : Int) < 3 by decide)]
  refine Ev.step (fun k => by rw [spec_l01Less.j1]) ?_
  simp only [if_true, if_pos (show (0 : Int) ≤ 0 by decide), l2, l3, if_pos (show (0 : Int) < 3 by decide), r0, r1]
  by_cases h : a = d
  · simp only [if_pos h]
    rw [show wrap64 ((0 : Int) + 1) = 1 from w64 (by omega) (by omega)]
    refine Ev.step (fun k => by rw [spec_l01Less.l0]) ?_
    simp only [l2, l3, if_pos (show (1 : Int) < 3 by decide), decide_eq_true (show (1 : Int) < 3 by decide)]
    refine Ev.step (fun k => by rw [spec_l01Less.j1]) ?_
    simp only [if_true, if_pos (show (0 : Int) ≤ 1 by decide), l2, l3, if_pos (show (1 : Int) < 3 by decide), r2, r3]
    by_cases h' : b = e
    · simp only [if_pos h']
      rw [show wrap64 ((1 : Int) + 1) = 2 from w64 (by omega) (by omega)]
      refine Ev.step (fun k => by rw [spec_l01Less.l0]) ?_
      simp only [l2, l3, if_pos (show (2 : Int) < 3 by decide), decide_eq_true (show (2 : Int) < 3 by decide)]
      refine Ev.step (fun k => by rw [spec_l01Less.j1]) ?_
      simp only [if_true, if_pos (show (0 : Int) ≤ 2 by decide), l2, l3, if_pos (show (2 : Int) < 3 by decide), r4, r5]
      by_cases h2 : c = f
      · simp only [if_pos h2]
        rw [show wrap64 ((2 : Int) + 1) = 3 from w64 (by omega) (by omega)]
        refine Ev.step (fun k => by rw [spec_l01Less.l0]) ?_
        simp only [l2, if_neg (show ¬ (3 : Int) < 3 by decide)]
        refine Ev.step (fun k => by rw [spec_l01Less.j1]) ?_
        simp only [Bool.false_eq_true, if_false, l2, l3]
        exact ev_eq (Ev.now _) (decide_eq_decide.2 (by omega))
      · simp only [if_neg h2]
        exact ev_eq (Ev.now _) (decide_eq_decide.2 (by omega))
    · simp only [if_neg h']
      exact ev_eq (Ev.now _) (decide_eq_decide.2 (by omega))
  · simp only [if_neg h]
    exact ev_eq (Ev.now _) (decide_eq_decide.2 (by omega))
def key3 (l : List S56) (x : S56) : List Int := [mapD l x.f0, x.f0, x.f2]
theorem key3_at {l : List S56} {i : Int} (h0 : 0 ≤ i) (h1 : i < (l.length : Int)) : rd_L3 (l.map (key3 l)) i = [mapD l (rd_T56 l i).f0, (rd_T56 l i).f0, (rd_T56 l i).f2] := by
  have hi : i.toNat < l.length := by omega
  unfold rd_L3 rd_T56
  simp [List.getD_eq_getElem?_getD, hi, key3]
theorem fam_insert {l p s : List S56} {x : S56} (he : l = p ++ x :: s) (hl : l.length ≤ 1048576) (q : List Int) (hq : q.length = p.length) (hm : ∀ z ∈ q, 0 ≤ z ∧ z < (p.length : Int)) : Ev (fun k => spec_l20Insert.f k q (l.map (key3 l)) (p.length : Int)) (insF (ltF l) (p.length : Int) q) := by
  simp only [spec_l20Insert.f]
  have hkl : (l.map (key3 l)).length = l.length := by simp
  have hpl := mid_lt he
  have hfin : ∀ (u v : List Int), q = u ++ v → Ev (fun _ : Nat => (spec_l01Own.f (q.take ((u.length : Int)).toNat)).bind fun t145 => ((some (([(p.length : Int)] : List Int) : List Int)).bind fun y148 => (if t145.length + y148.length < 17592186044416 then ((some (t145 ++ y148 : List Int)).bind fun y151 => (if y151.length + (q.drop ((u.length : Int)).toNat).length < 17592186044416 then (some (y151 ++ (q.drop ((u.length : Int)).toNat))) else (none))) else (none)))) (u ++ (p.length : Int) :: v) := by
    intro u v e
    have e1 : q.take ((u.length : Int)).toNat = u := by rw [e, Int.toNat_natCast]; simp
    have e2 : q.drop ((u.length : Int)).toNat = v := by rw [e, Int.toNat_natCast]; simp
    have el := congrArg List.length e
    simp only [List.length_append] at el
    simp only [e1, e2, spec_l01Own.f, Option.bind_some, List.length_nil, List.nil_append, if_pos (show 0 + u.length < 17592186044416 by omega), List.length_singleton, if_pos (show u.length + 1 < 17592186044416 by omega), List.length_append, if_pos (show u.length + 1 + v.length < 17592186044416 by omega)]
    exact ev_eq (Ev.now _) (by simp)
  refine loop_list q (fun u v => Ev (fun k => spec_l20Insert.l0 k q (l.map (key3 l)) (p.length : Int) (u.length : Int)) (u ++ insF (ltF l) (p.length : Int) v)) ?_ ?_
  · refine Ev.step (fun k => by rw [spec_l20Insert.l0]) ?_
    simp only [if_neg (nlt_self q), if_pos (nat_nn q.length), if_pos (Int.le_refl (q.length : Int))]
    exact hfin q [] (by simp)
  · intro u y v e ih
    have hu := mid_lt e
    have hy := hm y (by rw [e]; simp)
    have ry : rd q (u.length : Int) = y := mid_get e 0
    have k1 := key3_at (nat_nn p.length) hpl
    have k2 := key3_at (l := l) hy.1 (by omega)
    refine Ev.step (fun k => by rw [spec_l20Insert.l0]) ?_
    simp only [if_pos hu, if_pos (nat_nn p.length), hkl, if_pos hpl, if_pos (nat_nn u.length), ry, if_pos hy.1, if_pos (show y < (l.length : Int) by omega), k1, k2]
    refine Ev.bind (a := ltF l (p.length : Int) y) (less_three _ _ _ _ _ _) ?_
    by_cases hlt : ltF l (p.length : Int) y = true
    · simp only [hlt, if_true, if_pos (show (u.length : Int) ≤ (q.length : Int) by omega), insF, if_pos hlt]
      exact hfin u (y :: v) e
    · simp only [if_neg hlt, mid_next e (by omega), insF]
      simpa using ih
theorem spec_fam (l : List S56) (h7 : l.length ≤ 1000) : Ev (fun k => spec_FamilyOrder.l0 k l [] 0) (sortF (ltF l) l.length, 0) := by
  have H2 : Ev (fun k => spec_FamilyOrder.l2 k l (l.map (key3 l)) [] 0) (sortF (ltF l) l.length, 0) := by
    refine loop_list l (fun p s => Ev (fun k => spec_FamilyOrder.l2 k l (l.map (key3 l)) (sortF (ltF l) p.length) (p.length : Int)) (sortF (ltF l) l.length, 0)) ?_ ?_
    · refine Ev.step (fun k => by rw [spec_FamilyOrder.l2]) ?_
      simp only [if_neg (nlt_self l)]
      exact Ev.now _
    · intro p x s he ih
      have hp := mid_lt he
      refine Ev.step (fun k => by rw [spec_FamilyOrder.l2]) ?_
      simp only [if_pos hp, mid_next he (by omega)]
      refine Ev.bind (fam_insert he (by omega) (sortF (ltF l) p.length) (sortF_length _ _) (fun z hz => sortF_mem hz)) ?_
      have e : sortF (ltF l) (p ++ [x]).length = insF (ltF l) (p.length : Int) (sortF (ltF l) p.length) := by
        rw [show (p ++ [x]).length = p.length + 1 by simp]; rfl
      rw [e] at ih
      exact ih
  refine loop_list l (fun p s => Ev (fun k => spec_FamilyOrder.l0 k l (p.map (key3 l)) (p.length : Int)) (sortF (ltF l) l.length, 0)) ?_ ?_
  · refine Ev.step (fun k => by rw [spec_FamilyOrder.l0]) ?_
    simp only [if_neg (nlt_self l)]
    exact H2
  · intro p x s he ih
    have hp := mid_lt he
    have hx : rd_T56 l (p.length : Int) = x := by unfold rd_T56; exact mid_get he _
    have hmem : x ∈ l := by rw [he]; simp
    refine Ev.step (fun k => by rw [spec_FamilyOrder.l0]) ?_
    simp only [if_pos hp, if_pos (nat_nn p.length), hx]
    refine loop_list l (fun q t => Ev (fun k => spec_FamilyOrder.l1 k l (p.map (key3 l)) (p.length : Int) (minOf x.f0 q x.f2) (q.length : Int)) (sortF (ltF l) l.length, 0)) ?_ ?_
    · refine Ev.step (fun k => by rw [spec_FamilyOrder.l1]) ?_
      have ek : p.map (key3 l) ++ [[minOf x.f0 l x.f2, x.f0, x.f2]] = (p ++ [x]).map (key3 l) := by
        rw [min_mapD hmem]
        simp [key3]
      simp only [if_neg (nlt_self l), if_pos (nat_nn p.length), if_pos hp, List.length_map, if_pos (show p.length < 5864062014805 by omega), hx, ek, mid_next he (by omega)]
      exact ih
    · intro q y t he' ih'
      have hq := mid_lt he'
      have hy : rd_T56 l (q.length : Int) = y := by unfold rd_T56; exact mid_get he' _
      refine Ev.step (fun k => by rw [spec_FamilyOrder.l1]) ?_
      simp only [if_pos hq, if_pos (nat_nn q.length), if_pos (nat_nn p.length), if_pos hp, hx, hy, mid_next he' (by omega)]
      rw [minOf_app] at ih'
      by_cases h : y.f0 = x.f0
      · rw [if_pos h] at ih'
        simp only [if_pos h]
        exact ih'
      · rw [if_neg h] at ih'
        simp only [if_neg h]
        exact ih'
theorem shopB_all {a : Int} {l : List S56} (hs : shopB a l = true) : (∀ x ∈ l, okShop x = true) ∧ inR a 0 100000 = true ∧ l.length ≤ 7 := by
  simpa only [shopB, Bool.and_eq_true, List.all_eq_true, decide_eq_true_eq] using hs
theorem fam_told (a : Int) (l : List S56) (h : l.length ≤ 1048576) : ∃ r : List Int × Int, Ev (fun k => spec_FamilyOrder.f k a l) r ∧ Ev (fun k => impl_FamilyOrder.f k a l) r ∧ r = if shopB a l = true then (sortF (ltF l) l.length, 0) else ([], 1) := by
  simp only [spec_FamilyOrder.f, impl_FamilyOrder.f]
  have s1 := spec_IsShop a l h
  have i1 := impl_IsShop a l h
  cases hc : shopB a l <;> rw [hc] at s1 i1
  · exact ⟨([], 1), Ev.bind s1 (by simp only [Bool.false_eq_true, if_false]; exact Ev.now _), Ev.bind i1 (by simp only [Bool.false_eq_true, if_false]; exact Ev.now _), by simp⟩
  · obtain ⟨hok, _, h7⟩ := shopB_all hc
    have hwf : (l.all fun x => (Lit.int .i64 x.f0).wf && (Lit.int .i64 x.f2).wf) = true := by
      rw [List.all_eq_true]
      intro x hx
      have := hok x hx
      simp only [okShop, Bool.and_eq_true, inR_iff] at this
      rw [wf_small (by omega) (by omega), wf_small (by omega) (by omega)]
      rfl
    refine ⟨(sortF (ltF l) l.length, 0), Ev.bind s1 (by simp only [if_true]; exact spec_fam l (by omega)), Ev.bind i1 ?_, by simp⟩
    simp only [if_true, if_pos hwf, if_pos (show l.length ≤ 1000000 by omega)]
    exact Ev.bind (sorted_impl_FamilyOrder_1 (cmp_fam l hok) (ltF_O l) (ltF_A l) h7) (Ev.now _)
theorem both_FamilyOrder (a : Int) (l : List S56) (h : l.length ≤ 1048576) : ∃ r : List Int × Int, Ev (fun k => spec_FamilyOrder.f k a l) r ∧ Ev (fun k => impl_FamilyOrder.f k a l) r ∧ r.1.length ≤ 1048576 := by
  obtain ⟨r, h1, h2, h3⟩ := fam_told a l h
  refine ⟨r, h1, h2, ?_⟩
  rw [h3]
  split
  · simp only [sortF_length]; exact h
  · simp
theorem FnExactFamilyOrder : laws_FnExactFamilyOrder.Pure := by
  intro a l _ hl hw
  refine Ev.rounds (g := fun k => laws_FnExactFamilyOrder.f k a l) ?_
  simp only [laws_FnExactFamilyOrder.f, szShopJob l 1048576 (by omega) (by omega) (by omega), Option.bind_some]
  by_cases hs : (1048576 : Int) - l.length < 0
  · simp only [if_pos hs]
    exact Ev.now _
  · simp only [if_neg hs]
    have h0 : l.length ≤ 1048576 := by omega
    have hm : (l.map cvShopJob).length ≤ 1048576 := by simpa using h0
    obtain ⟨r, h1, h2, hr⟩ := both_FamilyOrder a (l.map cvShopJob) hm
    have e0 : ¬ (1 + (r.1.length : Int) < 0) := by omega
    refine Ev.bind (toShopJobS l h0) ?_
    refine Ev.bind h1 ?_
    refine Ev.bind (toShopJobS l h0) ?_
    refine Ev.bind h2 ?_
    refine Ev.bind (eqInt64S _ (by omega)) ?_
    simp only [if_true, bne_self_eq_false]
    refine Ev.step (fun k => by rw [laws_FnExactFamilyOrder.j0]) ?_
    simp only [Bool.false_eq_true, if_false]
    refine Ev.bind (toShopJobS l h0) ?_
    refine Ev.bind (eqShopJobS _ (by omega)) ?_
    simp only [if_true]
    refine Ev.bind (markShopJobS _ 1 (by omega) (by omega) (by omega)) ?_
    simp only [if_neg (show ¬ (1 + 3 * ((l.map cvShopJob).length : Int) < 0) by omega)]
    refine Ev.bind (eqInt64S _ (by omega)) ?_
    simp only [if_true, bne_self_eq_false]
    refine Ev.step (fun k => by rw [laws_FnExactFamilyOrder.j1]) ?_
    simp only [Bool.false_eq_true, if_false]
    refine Ev.bind (markInt64S _ 1 (by omega) (by omega) (by omega)) ?_
    refine Ev.bind (heldInt64S _ 1 (by omega) (by omega)) ?_
    simp only [if_neg e0, if_true]
    refine Ev.bind (toShopJobS l h0) ?_
    refine Ev.bind h2 ?_
    refine Ev.bind (eqInt64S _ (by omega)) ?_
    simp only [if_true, bne_self_eq_false]
    refine Ev.step (fun k => by rw [laws_FnExactFamilyOrder.j2]) ?_
    simp only [Bool.false_eq_true, if_false]
    refine Ev.bind (heldInt64S _ 1 (by omega) (by omega)) ?_
    simp only [if_neg e0, if_true]
    exact Ev.now _

end Go.Proofs.Ytcieonfpmchdkaa.Pure
