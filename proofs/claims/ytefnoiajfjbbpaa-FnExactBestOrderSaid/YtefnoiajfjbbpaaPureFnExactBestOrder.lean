/- The pure statement of law FnExactBestOrder: what the printed functions compute answers true at every input. No condition. -/
import Derived.Test.YtefnoiajfjbbpaaPFnExactBestOrderx6
set_option linter.unusedVariables false
set_option linter.unusedSimpArgs false
namespace Go.Proofs.Ytefnoiajfjbbpaa.Pure
open Go.RowKit Go.Proofs.Ytefnoiajfjbbpaa.PFnExactBestOrder Go.Proofs.YtefnoiajfjbbpaaW.PrintWords Go.Proofs.YtefnoiajfjbbpaaW.PrintLast Go.Proofs.YtefnoiajfjbbpaaW.PrintMore


/-! #### Numbers and rounds -/
theorem w64 {x : Int} (h1 : -9223372036854775808 ≤ x) (h2 : x ≤ 9223372036854775807) : wrap64 x = x := by
  unfold wrap64
  omega
theorem wf64 {x : Int} (h : (Lit.int .i64 x).wf = true) : -9223372036854775808 ≤ x ∧ x ≤ 9223372036854775807 := by
  simp only [Lit.wf, IntKind.min, IntKind.max, IntKind.signed, IntKind.bits, Bool.and_eq_true, decide_eq_true_eq, if_true] at h
  omega
theorem ev_of {α : Type} {g : Nat → Option α} {r : α} (h : ∀ k, g k = some r) : Ev g r := ⟨0, fun k _ => h k⟩
theorem ev_eq {α : Type} {g : Nat → Option α} {r r' : α} (h : Ev g r) (e : r = r') : Ev g r' := e ▸ h
/-- A loop over a list: what lies behind, what lies ahead. -/
theorem loop_list {α : Type} (l : List α) (Q : List α → List α → Prop) (h0 : Q l []) (hs : ∀ p x s, l = p ++ x :: s → Q (p ++ [x]) s → Q p (x :: s)) : Q [] l := by
  have h : ∀ s p, l = p ++ s → Q p s := by
    intro s
    induction s with
    | nil => intro p hp; rw [List.append_nil] at hp; rw [← hp]; exact h0
    | cons x s ih => intro p hp; exact hs p x s hp (ih (p ++ [x]) (by simp [hp]))
  exact h l [] rfl
theorem mid_lt {α : Type} {l p s : List α} {x : α} (h : l = p ++ x :: s) : (p.length : Int) < (l.length : Int) := by
  rw [h, List.length_append, List.length_cons]; omega
theorem mid_next {α : Type} {l p s : List α} {x : α} (h : l = p ++ x :: s) (hl : l.length ≤ 9223372036854775807) : wrap64 ((p.length : Int) + 1) = ((p ++ [x]).length : Int) := by
  have := mid_lt h
  rw [w64 (by omega) (by omega), List.length_append]; simp
theorem mid_get {α : Type} {l p s : List α} {x : α} (h : l = p ++ x :: s) (z : α) : l.getD (p.length : Int).toNat z = x := by
  rw [h]; simp
theorem get_mid {α : Type} (p s : List α) (x z : α) : (p ++ x :: s).getD (p.length : Int).toNat z = x := by simp
theorem nat_nn (n : Nat) : (0 : Int) ≤ (n : Int) := by omega
theorem nlt_self {α : Type} (l : List α) : ¬ ((l.length : Int) < (l.length : Int)) := by omega
theorem set_mid {α : Type} (p s : List α) (x y : α) : (p ++ x :: s).set ((p.length : Int).toNat) y = p ++ y :: s := by
  rw [Int.toNat_natCast, List.set_append_right _ _ (Nat.le_refl _)]; simp
theorem nil_or_snoc {α : Type} (p : List α) : p = [] ∨ ∃ q y, p = q ++ [y] := by
  rcases List.eq_nil_or_concat p with h | ⟨q, y, h⟩
  · exact .inl h
  · exact .inr ⟨q, y, by rw [h, List.concat_eq_append]⟩
theorem loop_all {α : Type} (l : List α) (Q : List α → List α → Prop) (h0 : Q l []) (hs : ∀ p x s, l = p ++ x :: s → Q (p ++ [x]) s → Q p (x :: s)) : ∀ s p, l = p ++ s → Q p s := by
  intro s
  induction s with
  | nil => intro p hp; rw [List.append_nil] at hp; rw [← hp]; exact h0
  | cons x s ih => intro p hp; exact hs p x s hp (ih (p ++ [x]) (by simp [hp]))
theorem szShopJob (l : List S96) (a : Int) (ha : 0 ≤ a) (hb : a ≤ 1048576) (h : l.length ≤ 9000000000000000000) : laws_szShopJobS.f l a = some (if a - l.length < 0 then (-1 : Int) else a - l.length) := by
  unfold laws_szShopJobS.f
  rw [w64 (by omega) (by omega)]
  split <;> rfl
def cvShopJob (x : S96) : S55 := ⟨x.f0, x.f1, x.f2⟩
theorem toShopJobS (l : List S96) (h : l.length ≤ 1048576) : Ev (fun k => laws_toShopJobS.f k l) (l.map cvShopJob) := by
  have H := loop_list l (fun p s => ∀ (a t : List S55), a.length = p.length → t.length = s.length → Ev (fun k => laws_toShopJobS.l0 k l (a ++ t) (p.length : Int)) (a ++ s.map cvShopJob)) ?_ ?_
  · have := H [] (List.replicate l.length z55) rfl (by simp)
    simp only [laws_toShopJobS.f, Int.toNat_natCast, if_pos (nat_nn l.length)]
    rw [show (fun k => if l.length ≤ _ then _ else _) = (fun k => laws_toShopJobS.l0 k l (List.replicate l.length z55) 0) from funext fun k => if_pos (by omega)]
    simpa using this
  · intro a t ha ht
    refine Ev.step (fun k => by rw [laws_toShopJobS.l0]) ?_
    simp only [if_neg (nlt_self l)]
    have : t = [] := List.eq_nil_of_length_eq_zero (by simpa using ht)
    subst this
    exact Ev.now _
  · intro p x s he ih a t ha ht
    obtain ⟨y, t, rfl⟩ : ∃ y t', t = y :: t' := by cases t with | nil => simp at ht | cons y t => exact ⟨y, t, rfl⟩
    refine Ev.step (fun k => by rw [laws_toShopJobS.l0]) ?_
    have e : ((p.length : Int) < ((a ++ y :: t).length : Int)) := by simp; omega
    have e2 := set_mid a t y (cvShopJob x)
    rw [ha] at e2
    simp only [if_pos (mid_lt he), if_pos (nat_nn p.length), laws_toShopJob.f, Option.bind_some, if_pos e, mid_next he (by omega), rd_T96, mid_get he]
    have := ih (a ++ [cvShopJob x]) t (by simp [ha]) (by simpa using ht)
    simp only [cvShopJob, List.append_assoc, List.singleton_append, List.map_cons] at this e2 ⊢
    rw [e2]
    exact this
theorem eqShopJobS (l : List S55) (h : l.length ≤ 9000000000000000000) : Ev (fun k => laws_eqShopJobS.f k l l) true := by
  simp only [laws_eqShopJobS.f, if_true]
  refine loop_list l (fun p s => Ev (fun k => laws_eqShopJobS.l0 k l l (p.length : Int)) true) ?_ ?_
  · refine Ev.step (fun k => by rw [laws_eqShopJobS.l0]) ?_
    simp only [if_neg (nlt_self l)]
    exact Ev.now _
  · intro p x s he ih
    refine Ev.step (fun k => by rw [laws_eqShopJobS.l0]) ?_
    simp only [if_pos (mid_lt he), if_pos (nat_nn p.length), laws_eqShopJob.f, if_true, Option.bind_some, mid_next he (by omega)]
    exact ih
/-- Structs that hold the numbers from m on. -/
def numsShopJob (m : Int) : Nat → List S55
  | 0 => []
  | n + 1 => ⟨m, m + 1, m + 2⟩ :: numsShopJob (m + 3) n
theorem numsShopJob_length (n : Nat) : ∀ m, (numsShopJob m n).length = n := by
  induction n with
  | zero => intro m; rfl
  | succ n ih => intro m; simp [numsShopJob, ih]
theorem markShopJobS (l : List S55) (m : Int) (hm : 0 ≤ m) (hb : m ≤ 1000000000000) (h : l.length ≤ 9000000000000) : Ev (fun k => laws_markShopJobS.f k l m) (m + 3 * (l.length : Int), numsShopJob m l.length) := by
  have H : ∀ (t a : List S55) (m : Int), 0 ≤ m → m + 3 * (t.length : Int) ≤ 1000000000000000 → a.length + t.length ≤ 9000000000000 → Ev (fun k => laws_markShopJobS.l0 k (a ++ t) m (a.length : Int)) (m + 3 * (t.length : Int), a ++ numsShopJob m t.length) := by
    intro t
    induction t with
    | nil =>
      intro a m hm hb ha
      refine Ev.step (fun k => by rw [laws_markShopJobS.l0]) ?_
      simp only [List.append_nil, if_neg (nlt_self a), List.length_nil, numsShopJob]
      exact ev_eq (Ev.now _) (by simp)
    | cons x t ih =>
      intro a m hm hb ha
      simp only [List.length_cons] at hb ha
      refine Ev.step (fun k => by rw [laws_markShopJobS.l0]) ?_
      have e : ((a.length : Int) < ((a ++ x :: t).length : Int)) := by simp; omega
      simp only [if_pos e, if_pos (nat_nn a.length), set_mid, Option.bind_some, rd_T55, get_mid, w64 (x := m + 1) (by omega) (by omega), w64 (x := m + 2) (by omega) (by omega), (show m + 1 + 1 = m + 2 from by omega), w64 (x := m + 3) (by omega) (by omega), (show m + 2 + 1 = m + 3 from by omega), w64 (x := (a.length : Int) + 1) (by omega) (by omega)]
      have := ih (a ++ [⟨m, m + 1, m + 2⟩]) (m + 3) (by omega) (by omega) (by simp; omega)
      simp only [List.append_assoc, List.singleton_append, List.length_append, List.length_singleton] at this
      rw [show ((a.length + 1 : Nat) : Int) = (a.length : Int) + 1 by omega] at this
      refine ev_eq this ?_
      simp only [List.length_cons, numsShopJob, Prod.mk.injEq, and_true]
      omega
  have := H l [] m hm (by omega) (by simpa using h)
  simpa [laws_markShopJobS.f] using this
theorem eqInt64S (l : List Int) (h : l.length ≤ 9000000000000000000) : Ev (fun k => laws_eqInt64S.f k l l) true := by
  simp only [laws_eqInt64S.f, if_true]
  refine loop_list l (fun p s => Ev (fun k => laws_eqInt64S.l0 k l l (p.length : Int)) true) ?_ ?_
  · refine Ev.step (fun k => by rw [laws_eqInt64S.l0]) ?_
    simp only [if_neg (nlt_self l)]
    exact Ev.now _
  · intro p x s he ih
    refine Ev.step (fun k => by rw [laws_eqInt64S.l0]) ?_
    simp only [if_pos (mid_lt he), if_pos (nat_nn p.length), if_true, mid_next he (by omega)]
    exact ih
/-- The numbers from m on. -/
def numsI (m : Int) : Nat → List Int
  | 0 => []
  | n + 1 => m :: numsI (m + 1) n
theorem numsI_length (n : Nat) : ∀ m, (numsI m n).length = n := by
  induction n with
  | zero => intro m; rfl
  | succ n ih => intro m; simp [numsI, ih]
theorem markInt64S (l : List Int) (m : Int) (hm : 0 ≤ m) (hb : m ≤ 1000000000000) (h : l.length ≤ 9000000000000) : Ev (fun k => laws_markInt64S.f k l m) (m + (l.length : Int), numsI m l.length) := by
  have H : ∀ (t a : List Int) (m : Int), 0 ≤ m → m + (t.length : Int) ≤ 1000000000000000 → a.length + t.length ≤ 9000000000000 → Ev (fun k => laws_markInt64S.l0 k (a ++ t) m (a.length : Int)) (m + (t.length : Int), a ++ numsI m t.length) := by
    intro t
    induction t with
    | nil =>
      intro a m hm hb ha
      refine Ev.step (fun k => by rw [laws_markInt64S.l0]) ?_
      simp only [List.append_nil, if_neg (nlt_self a), List.length_nil, numsI]
      exact ev_eq (Ev.now _) (by simp)
    | cons x t ih =>
      intro a m hm hb ha
      simp only [List.length_cons] at hb ha
      refine Ev.step (fun k => by rw [laws_markInt64S.l0]) ?_
      have e : ((a.length : Int) < ((a ++ x :: t).length : Int)) := by simp; omega
      simp only [if_pos e, if_pos (nat_nn a.length), set_mid, w64 (x := m + 1) (by omega) (by omega), w64 (x := (a.length : Int) + 1) (by omega) (by omega)]
      have := ih (a ++ [m]) (m + 1) (by omega) (by omega) (by simp; omega)
      simp only [List.append_assoc, List.singleton_append, List.length_append, List.length_singleton] at this
      rw [show ((a.length + 1 : Nat) : Int) = (a.length : Int) + 1 by omega] at this
      refine ev_eq this ?_
      simp only [List.length_cons, numsI, Prod.mk.injEq, and_true]
      omega
  have := H l [] m hm (by omega) (by simpa using h)
  simpa [laws_markInt64S.f] using this
theorem heldInt64S (n : Nat) (m : Int) (hm : 0 ≤ m) (hb : m + (n : Int) ≤ 1000000000000000) : Ev (fun k => laws_heldInt64S.f k (numsI m n) m) (m + (n : Int)) := by
  have H := loop_list (numsI m n) (fun p s => ∀ q : Int, 0 ≤ q → q + (s.length : Int) ≤ 1000000000000000 → s = numsI q s.length → Ev (fun k => laws_heldInt64S.l0 k (numsI m n) q (p.length : Int)) (q + (s.length : Int))) ?_ ?_
  · have := H m hm (by rw [numsI_length]; omega) (by rw [numsI_length])
    rw [numsI_length] at this
    exact this
  · intro q h0 h1 hs
    refine Ev.step (fun k => by rw [laws_heldInt64S.l0]) ?_
    simp only [if_neg (nlt_self (numsI m n))]
    exact ev_eq (Ev.now _) (by simp)
  · intro p x s he ih q h0 h1 hs
    simp only [List.length_cons] at h1 hs
    rw [numsI] at hs
    obtain ⟨rfl, hs⟩ := List.cons.inj hs
    refine Ev.step (fun k => by rw [laws_heldInt64S.l0]) ?_
    have hl : (numsI m n).length ≤ 1000000000000000 := by rw [numsI_length]; omega
    have hx : rd (numsI m n) (p.length : Int) = x := mid_get he 0
    simp only [if_pos (mid_lt he), if_pos (nat_nn p.length), hx, if_true, mid_next he (by omega), w64 (x := x + 1) (by omega) (by omega)]
    refine ev_eq (ih (x + 1) (by omega) (by omega) hs) ?_
    simp only [List.length_cons]
    omega
def inR (a lo hi : Int) : Bool := decide (lo ≤ a) && decide (a ≤ hi)
theorem inR_iff {a lo hi : Int} : inR a lo hi = true ↔ lo ≤ a ∧ a ≤ hi := by simp [inR]
theorem l01In (a lo hi : Int) : spec_l01In.f a lo hi = some (inR a lo hi) := by
  unfold spec_l01In.f inR
  split
  · rename_i h; rw [decide_eq_true (show lo ≤ a from h), Bool.true_and]
  · rename_i h; rw [decide_eq_false (show ¬ lo ≤ a from h), Bool.false_and]
theorem inRange (a lo hi : Int) : impl_inRange.f a lo hi = some (inR a lo hi) := by
  unfold impl_inRange.f inR
  split
  · rename_i h; rw [decide_eq_true (show lo ≤ a from h), Bool.true_and]
  · rename_i h; rw [decide_eq_false (show ¬ lo ≤ a from h), Bool.false_and]
def okShop (x : S55) : Bool := inR x.f0 0 9 && (inR x.f1 0 100000 && inR x.f2 0 100000)
def shopB (a : Int) (l : List S55) : Bool := l.all okShop && (inR a 0 100000 && decide (l.length ≤ 7))
theorem spec_IsShop (a : Int) (l : List S55) (h : l.length ≤ 1048576) : Ev (fun k => spec_IsShop.f k a l) (shopB a l) := by
  refine loop_list l (fun p s => Ev (fun k => spec_IsShop.l0 k a l (p.length : Int)) (s.all okShop && (inR a 0 100000 && decide (l.length ≤ 7)))) ?_ ?_
  · refine Ev.step (fun k => by rw [spec_IsShop.l0]) ?_
    simp only [if_neg (nlt_self l), List.all_nil, Bool.true_and, l01In, Option.bind_some]
    cases inR a 0 100000 <;> simp <;> first | exact Ev.now _ | exact ev_eq (Ev.now _) (decide_eq_decide.2 (by omega))
  · intro p x s he ih
    refine Ev.step (fun k => by rw [spec_IsShop.l0]) ?_
    simp only [if_pos (mid_lt he), if_pos (nat_nn p.length), mid_next he (by omega), rd_T55, mid_get he, l01In, Option.bind_some, List.all_cons]
    cases h0 : inR x.f0 0 9 <;> cases h1 : inR x.f1 0 100000 <;> cases h2 : inR x.f2 0 100000 <;> simp [okShop, h0, h1, h2] <;> first | exact Ev.now _ | simpa [mid_next he (by omega)] using ih
theorem impl_IsShop_1_ok (x : S55) : impl_IsShop_1.f x.f0 x.f1 x.f2 = some (!(okShop x)) := by
  simp only [impl_IsShop_1.f, impl_isMinutes.f, inRange, Option.bind_some, okShop]
  cases inR x.f0 0 9 <;> cases inR x.f1 0 100000 <;> cases inR x.f2 0 100000 <;> rfl
theorem contains_impl_IsShop_1 (l : List S55) (h : l.length ≤ 1048576) : Ev (fun k => slices_ContainsFunc_at_impl_IsShop_1.f k l) (!(l.all okShop)) := by
  have H := loop_list l (fun p s => ∃ r, Ev (fun k => slices_IndexFunc_at_impl_IsShop_1.l0 k l (l.length : Int) (p.length : Int)) r ∧ decide (r ≥ 0) = !(s.all okShop)) ?_ ?_
  · obtain ⟨r, hr, e⟩ := H
    rw [← e]
    exact Ev.bind hr (Ev.now _)
  · refine ⟨-1, Ev.step (fun k => by rw [slices_IndexFunc_at_impl_IsShop_1.l0]) ?_, by simp⟩
    simp only [if_neg (nlt_self l)]
    exact Ev.now _
  · rintro p x s he ⟨r, ih, e⟩
    by_cases hx : okShop x = true
    · refine ⟨r, Ev.step (fun k => by rw [slices_IndexFunc_at_impl_IsShop_1.l0]) ?_, by rw [e]; simp [hx]⟩
      simp only [if_pos (mid_lt he), if_pos (nat_nn p.length), rd_T55, mid_get he, impl_IsShop_1_ok, hx, Option.bind_some, mid_next he (by omega)]
      exact ih
    · refine ⟨(p.length : Int), Ev.step (fun k => by rw [slices_IndexFunc_at_impl_IsShop_1.l0]) ?_, by simp [hx]⟩
      simp only [if_pos (mid_lt he), if_pos (nat_nn p.length), rd_T55, mid_get he, impl_IsShop_1_ok, Bool.eq_false_iff.2 hx, Option.bind_some]
      exact Ev.now _
theorem impl_IsShop (a : Int) (l : List S55) (h : l.length ≤ 1048576) : Ev (fun k => impl_IsShop.f k a l) (shopB a l) := by
  simp only [impl_IsShop.f, impl_isMinutes.f, inRange, Option.bind_some, shopB]
  cases inR a 0 100000
  · simp only [Bool.false_eq_true, if_false, Bool.false_and, Bool.and_false]
    exact Ev.now _
  · by_cases hl : (l.length : Int) ≤ 7
    · simp only [if_pos hl, if_true]
      exact ev_eq (Ev.bind (contains_impl_IsShop_1 l h) (Ev.now _)) (by simp [show l.length ≤ 7 by omega])
    · simp only [if_neg hl, if_true]
      exact ev_eq (Ev.now _) (by simp [show ¬ l.length ≤ 7 by omega])

/-- Each number is in the range, and none comes twice. -/
def ordF (n : Int) (seen : List Int) : List Int → Bool
  | [] => true
  | x :: s => inR x 0 (n - 1) && (!(decide (x ∈ seen)) && ordF n (seen ++ [x]) s)
def orderB (l : List Int) : Bool := ordF (l.length : Int) [] l && decide (l.length ≤ 64)
theorem spec_has (l : List Int) (y : Int) (h : l.length ≤ 9000000000000000000) : Ev (fun k => spec_l01Has.f k l y) (decide (y ∈ l)) := by
  refine loop_list l (fun p s => Ev (fun k => spec_l01Has.l0 k l y (p.length : Int)) (decide (y ∈ s))) ?_ ?_
  · refine Ev.step (fun k => by rw [spec_l01Has.l0]) ?_
    simp only [if_neg (nlt_self l)]
    exact ev_eq (Ev.now _) (by simp)
  · intro p x s he ih
    refine Ev.step (fun k => by rw [spec_l01Has.l0]) ?_
    have hx : rd l (p.length : Int) = x := mid_get he 0
    simp only [if_pos (mid_lt he), if_pos (nat_nn p.length), hx, mid_next he (by omega)]
    by_cases e : x = y
    · simp only [if_pos e]
      exact ev_eq (Ev.now _) (by simp [e])
    · simp only [if_neg e]
      exact ev_eq ih (by simp [show ¬ y = x from fun h => e h.symm])
theorem ordF_mem {n : Int} : ∀ (s seen : List Int), ordF n seen s = true → ∀ x ∈ s, 0 ≤ x ∧ x < n := by
  intro s
  induction s with
  | nil => intro seen _ x hx; cases hx
  | cons y s ih =>
    intro seen h x hx
    simp only [ordF, Bool.and_eq_true, inR_iff] at h
    rcases List.mem_cons.1 hx with rfl | hx
    · omega
    · exact ih _ h.2.2 x hx
theorem orderB_mem {l : List Int} (h : orderB l = true) {x : Int} (hx : x ∈ l) : 0 ≤ x ∧ x < (l.length : Int) := by
  simp only [orderB, Bool.and_eq_true] at h
  exact ordF_mem _ _ h.1 x hx
def shopCode (a : Int) (l : List S55) (o : List Int) : Int := if shopB a l = true then (if orderB o = true then (if (o.length : Int) = (l.length : Int) then 0 else 2) else 2) else 1
theorem shopCode_zero {a : Int} {l : List S55} {o : List Int} (h : shopCode a l o = 0) : shopB a l = true ∧ orderB o = true ∧ o.length = l.length ∧ l.length ≤ 7 := by
  unfold shopCode at h
  by_cases h1 : shopB a l = true <;> by_cases h2 : orderB o = true <;> by_cases h3 : (o.length : Int) = (l.length : Int) <;> simp [h1, h2, h3] at h
  refine ⟨h1, h2, by omega, ?_⟩
  simp only [shopB, Bool.and_eq_true, decide_eq_true_eq] at h1
  exact h1.2.2
theorem both_work (a : Int) (l : List S55) (o : List Int) (hl7 : l.length ≤ 7) (hol : o.length = l.length) (hb : ∀ x ∈ o, 0 ≤ x ∧ x < (l.length : Int)) : ∃ r, Ev (fun k => spec_l20Done.f k a l o) r ∧ Ev (fun k => impl_work.f k a l o) r ∧ r.1.length = l.length := by
  simp only [spec_l20Done.f, impl_work.f, if_pos (nat_nn l.length), Int.toNat_natCast, if_pos (show l.length ≤ 35184372088832 by omega)]
  refine loop_list o (fun p s => ∀ (x8 : List Int) (x9 x10 x11 : Int), x8.length = l.length → ∃ r, Ev (fun k => spec_l20Done.l0 k a l o x8 x9 x10 x11 (p.length : Int)) r ∧ Ev (fun k => impl_work.l0 k a l x8 x9 x10 x11 o (o.length : Int) (p.length : Int)) r ∧ r.1.length = l.length) ?_ ?_ (List.replicate l.length 0) 0 (-1) 0 (by simp)
  · intro x8 x9 x10 x11 h8
    refine ⟨(x8, x11), Ev.step (fun k => by rw [spec_l20Done.l0]) ?_, Ev.step (fun k => by rw [impl_work.l0]) ?_, h8⟩ <;> simp only [if_neg (nlt_self o)] <;> exact Ev.now _
  · intro p x s he ih x8 x9 x10 x11 h8
    have hx : rd o (p.length : Int) = x := mid_get he 0
    have hr := hb x (by rw [he]; simp)
    by_cases hf : (rd_T55 l x).f0 = x10
    · obtain ⟨r, h1, h2, h3⟩ := ih (x8.set x.toNat (wrap64 (x9 + (rd_T55 l x).f1))) (wrap64 (x9 + (rd_T55 l x).f1)) x10 x11 (by simpa using h8)
      refine ⟨r, Ev.step (fun k => by rw [spec_l20Done.l0]) ?_, Ev.step (fun k => by rw [impl_work.l0]) ?_, h3⟩ <;> simp only [if_pos (mid_lt he), if_pos (nat_nn p.length), hx, if_pos hr.1, if_pos (show x < (l.length : Int) by omega), if_pos (show x < (x8.length : Int) by omega), if_pos hf, mid_next he (by omega)]
      · rw [hf]; exact h1
      · exact h2
    · obtain ⟨r, h1, h2, h3⟩ := ih (x8.set x.toNat (wrap64 (wrap64 (x9 + a) + (rd_T55 l x).f1))) (wrap64 (wrap64 (x9 + a) + (rd_T55 l x).f1)) (rd_T55 l x).f0 (wrap64 (x11 + 1)) (by simpa using h8)
      refine ⟨r, Ev.step (fun k => by rw [spec_l20Done.l0]) ?_, Ev.step (fun k => by rw [impl_work.l0]) ?_, h3⟩ <;> simp only [if_pos (mid_lt he), if_pos (nat_nn p.length), hx, if_pos hr.1, if_pos (show x < (l.length : Int) by omega), if_pos (show x < (x8.length : Int) by omega), if_neg hf, mid_next he (by omega)]
      · exact h1
      · exact h2
theorem both_works {a : Int} {l : List S55} {o : List Int} (hc : shopCode a l o = 0) : ∃ r, Ev (fun k => spec_l20Done.f k a l o) r ∧ Ev (fun k => impl_work.f k a l o) r ∧ r.1.length = l.length := by
  obtain ⟨_, hb, hol, hl7⟩ := shopCode_zero hc
  exact both_work a l o hl7 hol (fun x hx => by rw [← hol]; exact orderB_mem hb hx)
theorem max_cons (y : Int) (t : List Int) (h : (y :: t).length ≤ 1048576) : Ev (fun k => slices_Max__int64_int64.f k (y :: t)) (t.foldl mx y) := by
  have H := loop_all (y :: t) (fun p s => ∀ acc, Ev (fun k => slices_Max__int64_int64.l0 k (y :: t) acc (p.length : Int)) (s.foldl mx acc)) ?_ ?_ t [y] rfl y
  · have e1 : ¬ (((y :: t).length : Int) < 1) := by simp only [List.length_cons]; omega
    have e2 : 0 < ((y :: t).length : Int) := by simp only [List.length_cons]; omega
    simp only [slices_Max__int64_int64.f, if_neg e1, if_pos e2]
    exact H
  · intro acc
    refine Ev.step (fun k => by rw [slices_Max__int64_int64.l0]) ?_
    simp only [if_neg (nlt_self (y :: t)), List.foldl_nil]
    exact Ev.now _
  · intro p x s he ih acc
    refine Ev.step (fun k => by rw [slices_Max__int64_int64.l0]) ?_
    have hx : rd (y :: t) (p.length : Int) = x := mid_get he 0
    simp only [if_pos (mid_lt he), if_pos (nat_nn p.length), hx, mid_next he (by omega), List.foldl_cons]
    exact ih _
def lateF (d : List Int) : Nat → List S55 → List Int
  | _, [] => []
  | i, x :: s => wrap64 (rd d (i : Int) - x.f2) :: lateF d (i + 1) s
theorem lateF_length (d : List Int) : ∀ (s : List S55) i, (lateF d i s).length = s.length := by
  intro s
  induction s with
  | nil => intro i; rfl
  | cons x s ih => intro i; simp [lateF, ih]
/-- The lateness of the latest job. -/
def mostB (d : List Int) : List S55 → Int
  | [] => 0
  | x :: s => (lateF d 1 s).foldl mx (wrap64 (rd d 0 - x.f2))
theorem spec_late {a : Int} {l : List S55} {o : List Int} {r : List Int × Int} (hd : Ev (fun k => spec_l20Done.f k a l o) r) (hr : r.1.length = l.length) (h0 : 0 < l.length) (h7 : l.length ≤ 1048576) : Ev (fun k => spec_l20Late.f k a l o) (mostB r.1 l) := by
  simp only [spec_l20Late.f]
  refine Ev.bind hd ?_
  cases l with
  | nil => simp at h0
  | cons x s =>
    simp only [if_pos (show 0 < (r.1.length : Int) by omega), if_pos (show 0 < ((x :: s).length : Int) by omega)]
    have e : (rd_T55 (x :: s) 0).f2 = x.f2 := rfl
    rw [e]
    exact loop_all (x :: s) (fun p t => ∀ acc, Ev (fun k => spec_l20Late.l0 k (x :: s) r.1 acc (p.length : Int)) ((lateF r.1 p.length t).foldl mx acc)) (by
      intro acc
      refine Ev.step (fun k => by rw [spec_l20Late.l0]) ?_
      simp only [if_neg (nlt_self (x :: s)), lateF, List.foldl_nil]
      exact Ev.now _) (by
      intro p y t he ih acc
      have hp := mid_lt he
      refine Ev.step (fun k => by rw [spec_l20Late.l0]) ?_
      simp only [if_pos hp, if_pos (nat_nn p.length), if_pos (show (p.length : Int) < (r.1.length : Int) by omega), rd_T55, mid_get he, mid_next he (by omega), lateF, List.foldl_cons]
      have := ih (mx acc (wrap64 (rd r.1 (p.length : Int) - y.f2)))
      rw [show (p ++ [y]).length = p.length + 1 by simp] at this ⊢
      exact this) s [x] rfl _
theorem impl_late {a : Int} {l : List S55} {o : List Int} {r : List Int × Int} (hd : Ev (fun k => impl_work.f k a l o) r) (hr : r.1.length = l.length) (h0 : 0 < l.length) (h7 : l.length ≤ 1048576) : Ev (fun k => impl_mostLate.f k a l o) (mostB r.1 l) := by
  simp only [impl_mostLate.f]
  refine Ev.bind hd ?_
  have H := loop_list l (fun p t => ∀ acc : List Int, acc.length = p.length → Ev (fun k => slices_Max__int64_int64.f k (acc ++ lateF r.1 p.length t)) (mostB r.1 l) → Ev (fun k => impl_mostLate.l0 k l acc r.1 (r.1.length : Int) (p.length : Int)) (mostB r.1 l)) ?_ ?_ [] rfl ?_
  · exact H
  · intro acc ha hm
    refine Ev.step (fun k => by rw [impl_mostLate.l0]) ?_
    simp only [if_neg (show ¬ (l.length : Int) < (r.1.length : Int) by omega)]
    simp only [lateF, List.append_nil] at hm
    exact Ev.bind hm (Ev.now _)
  · intro p y t he ih acc ha hm
    have hp := mid_lt he
    refine Ev.step (fun k => by rw [impl_mostLate.l0]) ?_
    simp only [if_pos hp, if_pos (nat_nn p.length), if_pos (show (p.length : Int) < (r.1.length : Int) by omega), rd_T55, mid_get he, mid_next he (by omega), if_pos (show acc.length < 17592186044416 by omega)]
    refine ih _ (by simp [ha]) ?_
    simp only [lateF] at hm
    rw [show (p ++ [y]).length = p.length + 1 by simp]
    simpa using hm
  · cases l with
    | nil => simp at h0
    | cons x s =>
      simp only [List.nil_append, lateF, mostB]
      exact max_cons _ _ (by simp only [List.length_cons, lateF_length] at h7 ⊢; omega)
def fct : Nat → Nat
  | 0 => 1
  | n + 1 => (n + 1) * fct n
theorem w64n (x : Nat) (h : x ≤ 1000000) : wrap64 (x : Int) = (x : Int) := w64 (by omega) (by omega)
theorem fct_pos (n : Nat) : 0 < fct n := by
  induction n with
  | zero => exact Nat.one_pos
  | succ n ih => exact Nat.mul_pos (Nat.succ_pos n) ih
theorem fct_le {n : Nat} (h : n ≤ 7) : fct n ≤ 5040 := by
  rcases (by omega : n = 0 ∨ n = 1 ∨ n = 2 ∨ n = 3 ∨ n = 4 ∨ n = 5 ∨ n = 6 ∨ n = 7) with rfl | rfl | rfl | rfl | rfl | rfl | rfl | rfl <;> decide
theorem fct_ne (m : Nat) : ¬ ((fct m : Nat) : Int) = 0 := by
  have := fct_pos m
  generalize fct m = g at this ⊢
  omega
theorem fct_step (k : Nat) : ((fct k : Nat) : Int) * ((k + 1 : Nat) : Int) = ((fct (k + 1) : Nat) : Int) := by
  rw [← Int.natCast_mul, Nat.mul_comm]; rfl
theorem factorial_spec (n : Nat) (hn : n ≤ 7) : Ev (fun k => spec_l01Factorial.f k (n : Int)) (fct n : Int) := by
  simp only [spec_l01Factorial.f]
  have H : ∀ (d c : Nat), c + d = n → Ev (fun k => spec_l01Factorial.l0 k (n : Int) (fct c : Int) ((c + 1 : Nat) : Int)) (fct n : Int) := by
    intro d
    induction d with
    | zero =>
      intro c hc
      have : c = n := by omega
      subst this
      refine Ev.step (fun k => by rw [spec_l01Factorial.l0]) ?_
      simp only [if_neg (show ¬ ((c + 1 : Nat) : Int) ≤ (c : Int) by omega)]
      exact Ev.now _
    | succ d ih =>
      intro c hc
      refine Ev.step (fun k => by rw [spec_l01Factorial.l0]) ?_
      have w2 : wrap64 (((c + 1 : Nat) : Int) + 1) = ((c + 1 + 1 : Nat) : Int) := by rw [w64 (by omega) (by omega)]; omega
      have w1 := w64n (fct (c + 1)) (Nat.le_trans (fct_le (by omega)) (by decide))
      simp only [if_pos (show ((c + 1 : Nat) : Int) ≤ (n : Int) by omega), fct_step, w1, w2]
      exact ih (c + 1) (by omega)
  by_cases h0 : n = 0
  · subst h0
    refine Ev.step (fun k => by rw [spec_l01Factorial.l0]) ?_
    simp only [if_neg (show ¬ (2 : Int) ≤ ((0 : Nat) : Int) by decide)]
    exact Ev.now _
  · exact H (n - 1) 1 (by omega)
theorem factorial_impl (n : Nat) (hn : n ≤ 7) : Ev (fun k => impl_factorial.f k (n : Int)) (fct n : Int) := by
  simp only [impl_factorial.f]
  have H : ∀ (d c : Nat), c + d = n → Ev (fun k => impl_factorial.l0 k (n : Int) (fct c : Int) ((c + 1 : Nat) : Int)) (fct n : Int) := by
    intro d
    induction d with
    | zero =>
      intro c hc
      have : c = n := by omega
      subst this
      refine Ev.step (fun k => by rw [impl_factorial.l0]) ?_
      simp only [if_neg (show ¬ ((c + 1 : Nat) : Int) ≤ (c : Int) by omega)]
      exact Ev.now _
    | succ d ih =>
      intro c hc
      refine Ev.step (fun k => by rw [impl_factorial.l0]) ?_
      have w2 : wrap64 (((c + 1 : Nat) : Int) + 1) = ((c + 1 + 1 : Nat) : Int) := by rw [w64 (by omega) (by omega)]; omega
      have w1 := w64n (fct (c + 1)) (Nat.le_trans (fct_le (by omega)) (by decide))
      simp only [if_pos (show ((c + 1 : Nat) : Int) ≤ (n : Int) by omega), fct_step, w1, w2]
      exact ih (c + 1) (by omega)
  by_cases h0 : n = 0
  · subst h0
    refine Ev.step (fun k => by rw [impl_factorial.l0]) ?_
    simp only [if_neg (show ¬ (2 : Int) ≤ ((0 : Nat) : Int) by decide)]
    exact Ev.now _
  · exact H (n - 1) 1 (by omega)
/-- The order of a rank: each place takes one of those left. -/
def decF : Nat → List Int → Nat → List Int
  | 0, _, _ => []
  | m + 1, s, r => s.getD (r / fct m) 0 :: decF m (s.take (r / fct m) ++ s.drop (r / fct m + 1)) (r % fct m)
theorem decF_length : ∀ (m : Nat) (s : List Int) (r : Nat), (decF m s r).length = m := by
  intro m
  induction m with
  | zero => intro s r; rfl
  | succ m ih => intro s r; simp [decF, ih]
theorem rank_div {m r : Nat} (h : r < fct (m + 1)) : r / fct m < m + 1 := by
  rw [Nat.div_lt_iff_lt_mul (fct_pos m)]
  exact h
theorem at_split {s : List Int} {i : Nat} (h : i < s.length) : s = s.take i ++ s.getD i 0 :: s.drop (i + 1) := by
  rw [List.getD_eq_getElem?_getD, List.getElem?_eq_getElem h, Option.getD_some, ← List.drop_eq_getElem_cons h, List.take_append_drop]
theorem decF_perm : ∀ (m : Nat) (s : List Int) (r : Nat), s.length = m → r < fct m → (decF m s r).Perm s := by
  intro m
  induction m with
  | zero => intro s r hs _; rw [List.eq_nil_of_length_eq_zero hs]; exact List.Perm.refl _
  | succ m ih =>
    intro s r hs hr
    have hd := rank_div hr
    have e := at_split (s := s) (i := r / fct m) (by omega)
    simp only [decF]
    have := ih (s.take (r / fct m) ++ s.drop (r / fct m + 1)) (r % fct m) (by simp; omega) (Nat.mod_lt _ (fct_pos m))
    refine (List.Perm.cons _ this).trans ?_
    have h2 := (List.perm_middle (a := s.getD (r / fct m) 0) (l₁ := s.take (r / fct m)) (l₂ := s.drop (r / fct m + 1))).symm
    rwa [← e] at h2
/-- Every order is the order of a rank. -/
theorem decF_onto : ∀ (m : Nat) (s o : List Int), s.length = m → o.Perm s → ∃ r, r < fct m ∧ decF m s r = o := by
  intro m
  induction m with
  | zero =>
    intro s o hs hp
    rw [List.eq_nil_of_length_eq_zero hs] at hp
    exact ⟨0, fct_pos 0, by rw [hp.eq_nil]; rfl⟩
  | succ m ih =>
    intro s o hs hp
    cases o with
    | nil => have := hp.length_eq; simp at this; omega
    | cons y o =>
      obtain ⟨u, v, rfl⟩ := List.append_of_mem (hp.mem_iff.1 (by simp) : y ∈ s)
      have hp' : o.Perm (u ++ v) := (hp.trans List.perm_middle).cons_inv
      obtain ⟨r, hr, e⟩ := ih (u ++ v) o (by simp at hs ⊢; omega) hp'
      have hul : u.length < m + 1 := by simp at hs; omega
      have hdiv : (u.length * fct m + r) / fct m = u.length := by
        rw [Nat.add_comm, Nat.add_mul_div_right _ _ (fct_pos m), Nat.div_eq_of_lt hr, Nat.zero_add]
      have hmod : (u.length * fct m + r) % fct m = r := by
        rw [Nat.add_comm, Nat.add_mul_mod_self_right, Nat.mod_eq_of_lt hr]
      refine ⟨u.length * fct m + r, ?_, ?_⟩
      · show _ < (m + 1) * fct m
        have := Nat.mul_le_mul_right (fct m) (show u.length + 1 ≤ m + 1 by omega)
        rw [Nat.add_mul, Nat.one_mul] at this
        omega
      · simp only [decF, hdiv, hmod]
        have h1 : (u ++ y :: v).getD u.length 0 = y := by simp
        have h2 : (u ++ y :: v).take u.length = u := by simp
        have h3 : (u ++ y :: v).drop (u.length + 1) = v := by simp
        rw [h1, h2, h3, e]
theorem rank_impl : ∀ (m : Nat) (s out : List Int) (r : Nat), s.length = m → m ≤ 7 → r < fct m → out.length + m ≤ 1000 → Ev (fun k => impl_OrderOfRank.l1 k (r : Int) s out) (out ++ decF m s r, 0) := by
  intro m
  induction m with
  | zero =>
    intro s out r hs _ _ _
    refine Ev.step (fun k => by rw [impl_OrderOfRank.l1]) ?_
    simp only [if_neg (show ¬ (s.length : Int) > 0 by omega), decF, List.append_nil]
    exact Ev.now _
  | succ m ih =>
    intro s out r hs h7 hr ho
    have hd := rank_div hr
    have ed : Int.tdiv (r : Int) (fct m : Int) = ((r / fct m : Nat) : Int) := (Int.ofNat_tdiv _ _).symm
    have em : Int.tmod (r : Int) (fct m : Int) = ((r % fct m : Nat) : Int) := (Int.ofNat_tmod _ _).symm
    have hmod : r % fct m < fct m := Nat.mod_lt _ (fct_pos m)
    have hne := fct_ne m
    clear hr
    generalize hq : r / fct m = q at ed hd
    generalize hq2 : r % fct m = q2 at em hmod
    have w1 : wrap64 ((s.length : Int) - 1) = (m : Int) := by clear hmod hne hq hq2 ed em; rw [hs, show ((m + 1 : Nat) : Int) - 1 = (m : Int) by omega]; exact w64 (by omega) (by omega)
    have w2 : wrap64 ((q : Nat) : Int) = (q : Int) := w64n q (by clear hmod hne hq hq2 ed em; omega)
    have w3 : wrap64 (((q : Nat) : Int) + 1) = ((q + 1 : Nat) : Int) := by clear hmod hne hq hq2 ed em; exact w64 (by omega) (by omega)
    have c1 : (s.length : Int) > 0 := by clear hmod hne hq hq2 ed em; omega
    have c2 : (q : Int) < (s.length : Int) := by clear hmod hne hq hq2 ed em; omega
    have c3 : out.length < 17592186044416 := by clear hmod hne hq hq2 ed em; omega
    have c4 : (q : Int) < ((q + 1 : Nat) : Int) := by clear hmod hne hq hq2 ed em; omega
    have c5 : ((q + 1 : Nat) : Int) ≤ (s.length : Int) := by clear hmod hne hq hq2 ed em; omega
    have c6 : (s.take q ++ s.drop (q + 1)).length = m := by clear hmod hne hq hq2 ed em; simp; omega
    have c7 : (out ++ [s.getD q 0]).length + m ≤ 1000 := by clear hmod hne hq hq2 ed em; simp; omega
    have c8 : m ≤ 7 := by clear hmod hne hq hq2 ed em; omega
    refine Ev.step (fun k => by rw [impl_OrderOfRank.l1]) ?_
    simp only [if_pos c1, impl_length_int64.f, Option.bind_some, w1]
    refine Ev.bind (factorial_impl m c8) ?_
    simp only [if_neg hne, ed, em, w2, w3, if_pos (nat_nn q), if_pos c2, if_pos c3, slices_Delete__int64_int64.f, if_pos c4, if_pos c5, Int.toNat_natCast, Option.bind_some]
    have := ih (s.take q ++ s.drop (q + 1)) (out ++ [s.getD q 0]) q2 c6 c8 hmod c7
    refine ev_eq (r := (out ++ [s.getD q 0] ++ decF m (s.take q ++ s.drop (q + 1)) q2, 0)) ?_ (by simp only [decF, hq, hq2, List.append_assoc, List.singleton_append])
    exact this
/-- The numbers below n that are not yet taken. -/
def lftF (n : Nat) (out : List Int) : List Int := (numsI 0 n).filter (fun x => !(decide (x ∈ out)))
theorem numsI_mem : ∀ (n : Nat) (m x : Int), x ∈ numsI m n ↔ m ≤ x ∧ x < m + (n : Int) := by
  intro n
  induction n with
  | zero =>
    intro m x
    simp only [numsI, List.not_mem_nil, false_iff]
    omega
  | succ n ih =>
    intro m x
    simp only [numsI, List.mem_cons, ih]
    omega
theorem numsI_nodup : ∀ (n : Nat) (m : Int), (numsI m n).Nodup := by
  intro n
  induction n with
  | zero => intro m; exact List.nodup_nil
  | succ n ih => intro m; exact List.nodup_cons.2 ⟨fun h => by have := (numsI_mem n (m + 1) m).1 h; omega, ih _⟩
theorem filter_ne {y : Int} : ∀ {L : List Int}, y ∉ L → L.filter (fun x => !(decide (x = y))) = L := by
  intro L
  induction L with
  | nil => intro _; rfl
  | cons x L ih =>
    intro h
    have h1 : x ≠ y := fun e => h (by simp [e])
    rw [List.filter_cons_of_pos (by simp [h1]), ih (fun hy => h (by simp [hy]))]
theorem lftF_take {n : Nat} {out : List Int} {q : Nat} (h : q < (lftF n out).length) : lftF n (out ++ [(lftF n out).getD q 0]) = (lftF n out).take q ++ (lftF n out).drop (q + 1) := by
  have e := at_split h
  generalize (lftF n out).getD q 0 = y at e ⊢
  have hn : (lftF n out).Nodup := (numsI_nodup n 0).filter _
  have e2 : lftF n (out ++ [y]) = (lftF n out).filter (fun x => !(decide (x = y))) := by
    unfold lftF
    rw [List.filter_filter]
    congr 1
    funext x
    by_cases h1 : x = y <;> by_cases h2 : x ∈ out <;> simp [h1, h2]
  generalize lftF n out = L at e hn e2 ⊢
  rw [e2]
  generalize L.take q = u at e ⊢
  generalize L.drop (q + 1) = v at e ⊢
  subst e
  obtain ⟨hu, hv, hd⟩ := List.nodup_append.1 hn
  have hv' := List.nodup_cons.1 hv
  rw [List.filter_append, List.filter_cons_of_neg (by simp), filter_ne (fun h => hd y h y (by simp) rfl), filter_ne hv'.1]
theorem rank_spec_in (n : Nat) (r' : Int) (out : List Int) (R : List Int × Int) (hn : n ≤ 7) (ho : out.length ≤ 1000) : ∀ (c x : Nat) (skip : Nat), x + c = n → skip ≤ 1000 → skip < ((numsI (x : Int) c).filter (fun z => !(decide (z ∈ out)))).length →
    Ev (fun k => spec_OrderOfRank.l0 k (n : Int) r' (out ++ [((numsI (x : Int) c).filter (fun z => !(decide (z ∈ out)))).getD skip 0]) (wrap64 ((out.length : Int) + 1))) R →
    Ev (fun k => spec_OrderOfRank.l1 k (n : Int) r' out (out.length : Int) (skip : Int) (x : Int)) R := by
  intro c
  induction c with
  | zero => intro x skip _ _ h _; simp [numsI] at h
  | succ c ih =>
    intro x skip hx hsk hs h
    have ex : ((x : Int) + 1) = ((x + 1 : Nat) : Int) := by omega
    have ew : wrap64 ((x : Int) + 1) = ((x + 1 : Nat) : Int) := by rw [w64 (by omega) (by omega)]; omega
    refine Ev.step (fun k => by rw [spec_OrderOfRank.l1]) ?_
    simp only [if_pos (show (x : Int) < (n : Int) by omega)]
    refine Ev.bind (spec_has out (x : Int) (by omega)) ?_
    simp only [ew]
    simp only [numsI, ex] at hs h
    by_cases hm : (x : Int) ∈ out
    · rw [List.filter_cons_of_neg (by simp [hm])] at hs h
      simp only [decide_eq_true hm, if_true]
      exact ih (x + 1) skip (by omega) hsk hs h
    · rw [List.filter_cons_of_pos (by simp [hm])] at hs h
      simp only [decide_eq_false hm, Bool.false_eq_true, if_false]
      cases skip with
      | zero =>
        simp only [show (((0 : Nat) : Int) = 0) = True from eq_true rfl, if_true, if_pos (show out.length < 17592186044416 by omega)]
        exact h
      | succ skip =>
        have es : wrap64 (((skip + 1 : Nat) : Int) - 1) = (skip : Int) := by clear hs; rw [w64 (by omega) (by omega)]; omega
        simp only [if_neg (show ¬ ((skip + 1 : Nat) : Int) = 0 by clear hs; omega), es]
        exact ih (x + 1) skip (by clear hs; omega) (by clear hs; omega) (Nat.lt_of_succ_lt_succ hs) h
theorem rank_spec (n : Nat) (hn : n ≤ 7) : ∀ (m : Nat) (out : List Int) (r : Nat), (lftF n out).length = m → out.length + m = n → r < fct m → Ev (fun k => spec_OrderOfRank.l0 k (n : Int) (r : Int) out (out.length : Int)) (out ++ decF m (lftF n out) r, 0) := by
  intro m
  induction m with
  | zero =>
    intro out r _ ho _
    refine Ev.step (fun k => by rw [spec_OrderOfRank.l0]) ?_
    simp only [if_neg (show ¬ (out.length : Int) < (n : Int) by omega), decF, List.append_nil]
    exact Ev.now _
  | succ m ih =>
    intro out r hs ho hr
    have hd := rank_div hr
    have ed : Int.tdiv (r : Int) (fct m : Int) = ((r / fct m : Nat) : Int) := (Int.ofNat_tdiv _ _).symm
    have em : Int.tmod (r : Int) (fct m : Int) = ((r % fct m : Nat) : Int) := (Int.ofNat_tmod _ _).symm
    have hmod : r % fct m < fct m := Nat.mod_lt _ (fct_pos m)
    have hne := fct_ne m
    clear hr
    generalize hq : r / fct m = q at ed hd
    generalize hq2 : r % fct m = q2 at em hmod
    have w1 : wrap64 (wrap64 ((n : Int) - (out.length : Int)) - 1) = (m : Int) := by
      clear hmod hne hq hq2 ed em
      rw [w64 (x := (n : Int) - (out.length : Int)) (by omega) (by omega), show (n : Int) - (out.length : Int) - 1 = (m : Int) by omega]
      exact w64 (by omega) (by omega)
    have w2 : wrap64 ((q : Nat) : Int) = (q : Int) := w64n q (by clear hmod hne hq hq2 ed em; omega)
    have c1 : (out.length : Int) < (n : Int) := by clear hmod hne hq hq2 ed em; omega
    have c8 : m ≤ 7 := by clear hmod hne hq hq2 ed em; omega
    have hlt : q < (lftF n out).length := by clear hmod hne hq hq2 ed em; omega
    have ht := lftF_take hlt
    have c6 : (lftF n (out ++ [(lftF n out).getD q 0])).length = m := by clear hmod hne hq hq2 ed em; rw [ht]; simp; omega
    have c7 : (out ++ [(lftF n out).getD q 0]).length + m = n := by clear hmod hne hq hq2 ed em; simp; omega
    have e1 : wrap64 ((out.length : Int) + 1) = ((out ++ [(lftF n out).getD q 0]).length : Int) := by clear hmod hne hq hq2 ed em; simp; exact w64 (by omega) (by omega)
    refine Ev.step (fun k => by rw [spec_OrderOfRank.l0]) ?_
    simp only [if_pos c1, w1]
    refine Ev.bind (factorial_spec m c8) ?_
    simp only [if_neg hne, ed, em, w2]
    refine rank_spec_in n _ out _ hn (by clear hmod hne hq hq2 ed em; omega) n 0 q (by simp) (by clear hmod hne hq hq2 ed em; omega) hlt ?_
    have := ih (out ++ [(lftF n out).getD q 0]) q2 c6 c7 hmod
    rw [ht] at this
    show Ev (fun k => spec_OrderOfRank.l0 k (n : Int) _ (out ++ [(lftF n out).getD q 0]) (wrap64 ((out.length : Int) + 1))) _
    rw [e1]
    refine ev_eq this ?_
    simp only [decF, hq, hq2, List.append_assoc, List.singleton_append]
theorem lftF_nil (n : Nat) : lftF n [] = numsI 0 n := by
  unfold lftF
  exact List.filter_eq_self.2 (fun x _ => by simp)
/-- Both tell the same order of a rank. -/
theorem both_rank (n r : Nat) (hn : n ≤ 7) (hr : r < fct n) : Ev (fun k => spec_OrderOfRank.f k (n : Int) (r : Int)) (decF n (numsI 0 n) r, 0) ∧ Ev (fun k => impl_OrderOfRank.f k (n : Int) (r : Int)) (decF n (numsI 0 n) r, 0) := by
  have h1 : inR (n : Int) 0 12 = true := by clear hr; exact inR_iff.2 ⟨by omega, by omega⟩
  obtain ⟨h2, w1⟩ : inR (r : Int) 0 ((fct n : Int) - 1) = true ∧ wrap64 ((fct n : Int) - 1) = (fct n : Int) - 1 := by
    have hf := fct_le hn
    generalize fct n = g at hr hf ⊢
    exact ⟨inR_iff.2 ⟨by omega, by omega⟩, w64 (by omega) (by omega)⟩
  constructor
  · simp only [spec_OrderOfRank.f, l01In, h1, Option.bind_some, if_true]
    refine Ev.bind (factorial_spec n hn) ?_
    simp only [w1, h2, Bool.not_true]
    refine Ev.step (fun k => by rw [spec_OrderOfRank.j0]) ?_
    simp only [Bool.false_eq_true, if_false]
    have := rank_spec n hn n [] r (by rw [lftF_nil, numsI_length]) (by simp) hr
    rw [lftF_nil] at this
    simpa using this
  · simp only [impl_OrderOfRank.f, inRange, h1, Option.bind_some, if_true]
    refine Ev.bind (factorial_impl n hn) ?_
    simp only [w1, h2, Bool.not_true]
    refine Ev.step (fun k => by rw [impl_OrderOfRank.j0]) ?_
    simp only [Bool.false_eq_true, if_false]
    have H : ∀ (c x : Nat) (acc : List Int), x + c = n → acc.length = x → acc ++ numsI (x : Int) c = numsI 0 n → Ev (fun k => impl_OrderOfRank.l0 k (r : Int) acc [] (n : Int) (x : Int)) (decF n (numsI 0 n) r, 0) := by
      intro c
      induction c with
      | zero =>
        intro x acc hx ha he
        refine Ev.step (fun k => by rw [impl_OrderOfRank.l0]) ?_
        simp only [if_neg (show ¬ (x : Int) < (n : Int) by omega)]
        simp only [numsI, List.append_nil] at he
        subst he
        have := rank_impl n (numsI 0 n) [] r (numsI_length _ _) hn hr (by simp; omega)
        simpa using this
      | succ c ih =>
        intro x acc hx ha he
        refine Ev.step (fun k => by rw [impl_OrderOfRank.l0]) ?_
        have ex : ((x : Int) + 1) = ((x + 1 : Nat) : Int) := by omega
        have ew : wrap64 ((x : Int) + 1) = ((x + 1 : Nat) : Int) := by rw [w64 (by omega) (by omega)]; omega
        simp only [if_pos (show (x : Int) < (n : Int) by omega), if_pos (show acc.length < 17592186044416 by omega), ew]
        exact ih (x + 1) (acc ++ [(x : Int)]) (by omega) (by simp; omega) (by rw [← he, numsI, ex, List.append_assoc, List.singleton_append])
    exact H n 0 [] (by omega) rfl rfl
/-- The best of the first orders, and how late it is. -/
def bstF (D : Nat → List Int) (V : Nat → Int) : Nat → List Int × Int
  | 0 => ([], 0)
  | k + 1 => if k = 0 ∨ V k < (bstF D V k).2 then (D k, V k) else bstF D V k
theorem bstF_least (D : Nat → List Int) (V : Nat → Int) : ∀ k : Nat, (∃ j, j < k + 1 ∧ bstF D V (k + 1) = (D j, V j)) ∧ ∀ j, j < k + 1 → (bstF D V (k + 1)).2 ≤ V j := by
  intro k
  induction k with
  | zero =>
    have e : bstF D V 1 = (D 0, V 0) := by simp [bstF]
    rw [e]
    exact ⟨⟨0, by omega, rfl⟩, fun j hj => by rw [show j = 0 by omega]; exact Int.le_refl _⟩
  | succ k ih =>
    obtain ⟨⟨j0, hj0, e0⟩, hle⟩ := ih
    by_cases h : V (k + 1) < (bstF D V (k + 1)).2
    · have e : bstF D V (k + 1 + 1) = (D (k + 1), V (k + 1)) := by
        rw [show bstF D V (k + 1 + 1) = if k + 1 = 0 ∨ V (k + 1) < (bstF D V (k + 1)).2 then (D (k + 1), V (k + 1)) else bstF D V (k + 1) from rfl, if_pos (Or.inr h)]
      rw [e]
      refine ⟨⟨k + 1, by omega, rfl⟩, fun j hj => ?_⟩
      by_cases hj' : j = k + 1
      · rw [hj']; exact Int.le_refl _
      · have := hle j (by omega); show V (k + 1) ≤ V j; omega
    · have e : bstF D V (k + 1 + 1) = bstF D V (k + 1) := by
        rw [show bstF D V (k + 1 + 1) = if k + 1 = 0 ∨ V (k + 1) < (bstF D V (k + 1)).2 then (D (k + 1), V (k + 1)) else bstF D V (k + 1) from rfl, if_neg (by omega)]
      rw [e]
      refine ⟨⟨j0, by omega, e0⟩, fun j hj => ?_⟩
      by_cases hj' : j = k + 1
      · rw [hj']; omega
      · exact hle j (by omega)
theorem bst_next (D : Nat → List Int) (V : Nat → Int) (k : Nat) : bstF D V (k + 1) = if k = 0 ∨ V k < (bstF D V k).2 then (D k, V k) else bstF D V k := rfl
/-- How late the orders are, told by both. -/
theorem late_all (a : Int) (l : List S55) (hl7 : l.length ≤ 7) (h0 : 0 < l.length) : ∃ V : List Int → Int, ∀ o : List Int, o.Perm (numsI 0 l.length) → Ev (fun k => spec_l20Late.f k a l o) (V o) ∧ Ev (fun k => impl_mostLate.f k a l o) (V o) := by
  have H : ∀ o : List Int, ∃ v : Int, o.Perm (numsI 0 l.length) → Ev (fun k => spec_l20Late.f k a l o) v ∧ Ev (fun k => impl_mostLate.f k a l o) v := by
    intro o
    by_cases ho : o.Perm (numsI 0 l.length)
    · obtain ⟨r, h1, h2, h3⟩ := both_work a l o hl7 (by rw [ho.length_eq, numsI_length]) (fun x hx => by
        have := (numsI_mem l.length 0 x).1 (ho.mem_iff.1 hx)
        omega)
      exact ⟨mostB r.1 l, fun _ => ⟨spec_late h1 h3 h0 (by omega), impl_late h2 h3 h0 (by omega)⟩⟩
    · exact ⟨0, fun h => absurd h ho⟩
  exact ⟨fun o => Classical.choose (H o), fun o => Classical.choose_spec (H o)⟩
theorem best_told (a : Int) (l : List S55) (hl7 : l.length ≤ 7) (h0 : 0 < l.length) (V : List Int → Int) (hV : ∀ o : List Int, o.Perm (numsI 0 l.length) → Ev (fun k => spec_l20Late.f k a l o) (V o) ∧ Ev (fun k => impl_mostLate.f k a l o) (V o)) :
    Ev (fun k => spec_BestOrder.l0 k a l (l.length : Int) [] 0 0) ((bstF (decF l.length (numsI 0 l.length)) (fun r => V (decF l.length (numsI 0 l.length) r)) (fct l.length)).1, 0) ∧ Ev (fun k => impl_BestOrder.l0 k a l [] 0 (fct l.length : Int) 0) ((bstF (decF l.length (numsI 0 l.length)) (fun r => V (decF l.length (numsI 0 l.length) r)) (fct l.length)).1, 0) := by
  have hf := fct_le hl7
  generalize hD : decF l.length (numsI 0 l.length) = D
  generalize hVD : (fun r => V (D r)) = W
  have hW : ∀ r, W r = V (D r) := fun r => by rw [← hVD]
  have hR : ∀ r, r < fct l.length → (Ev (fun k => spec_OrderOfRank.f k (l.length : Int) (r : Int)) (D r, 0) ∧ Ev (fun k => impl_OrderOfRank.f k (l.length : Int) (r : Int)) (D r, 0)) ∧ (Ev (fun k => spec_l20Late.f k a l (D r)) (W r) ∧ Ev (fun k => impl_mostLate.f k a l (D r)) (W r)) := by
    intro r hr
    rw [hW, ← hD]
    exact ⟨both_rank l.length r hl7 hr, hV _ (decF_perm l.length _ r (numsI_length _ _) hr)⟩
  have H : ∀ (d r : Nat), r + d = fct l.length → Ev (fun k => spec_BestOrder.l0 k a l (l.length : Int) (bstF D W r).1 (bstF D W r).2 (r : Int)) ((bstF D W (fct l.length)).1, 0) ∧ Ev (fun k => impl_BestOrder.l0 k a l (bstF D W r).1 (bstF D W r).2 (fct l.length : Int) (r : Int)) ((bstF D W (fct l.length)).1, 0) := by
    intro d
    induction d with
    | zero =>
      intro r hr
      have : r = fct l.length := by omega
      subst this
      refine ⟨Ev.step (fun k => by rw [spec_BestOrder.l0]) ?_, Ev.step (fun k => by rw [impl_BestOrder.l0]) ?_⟩
      · simp only [if_pos (show (l.length : Int) > 0 by omega)]
        refine Ev.bind (factorial_spec l.length hl7) ?_
        simp only [decide_eq_false (show ¬ ((fct l.length : Nat) : Int) < ((fct l.length : Nat) : Int) by omega)]
        refine Ev.step (fun k => by rw [spec_BestOrder.j1]) ?_
        simp only [Bool.false_eq_true, if_false]
        exact Ev.now _
      · simp only [if_neg (show ¬ ((fct l.length : Nat) : Int) < ((fct l.length : Nat) : Int) by omega)]
        exact Ev.now _
    | succ d ih =>
      intro r hr
      obtain ⟨i1, i2⟩ := ih (r + 1) (by omega)
      obtain ⟨⟨k1, k2⟩, v1, v2⟩ := hR r (by omega)
      have ew : wrap64 ((r : Int) + 1) = ((r + 1 : Nat) : Int) := by rw [w64 (by omega) (by omega)]; omega
      rw [bst_next] at i1 i2
      refine ⟨Ev.step (fun k => by rw [spec_BestOrder.l0]) ?_, Ev.step (fun k => by rw [impl_BestOrder.l0]) ?_⟩
      · simp only [if_pos (show (l.length : Int) > 0 by omega)]
        refine Ev.bind (factorial_spec l.length hl7) ?_
        simp only [decide_eq_true (show (r : Int) < ((fct l.length : Nat) : Int) by omega)]
        refine Ev.step (fun k => by rw [spec_BestOrder.j1]) ?_
        simp only [if_true]
        refine Ev.bind k1 ?_
        refine Ev.bind v1 ?_
        simp only [ew]
        by_cases c0 : r = 0
        · rw [if_pos (Or.inl c0)] at i1
          simp only [if_pos (show (r : Int) = 0 by omega)]
          exact i1
        · simp only [if_neg (show ¬ (r : Int) = 0 by omega)]
          by_cases c1 : W r < (bstF D W r).2
          · rw [if_pos (Or.inr c1)] at i1
            simp only [if_pos c1]
            exact i1
          · rw [if_neg (by omega)] at i1
            simp only [if_neg c1]
            exact i1
      · simp only [if_pos (show (r : Int) < ((fct l.length : Nat) : Int) by omega), impl_length_ShopJob.f, Option.bind_some]
        refine Ev.bind k2 ?_
        refine Ev.bind v2 ?_
        simp only [ew]
        by_cases c0 : r = 0
        · rw [if_pos (Or.inl c0)] at i2
          simp only [if_pos (show (r : Int) = 0 by omega)]
          exact i2
        · simp only [if_neg (show ¬ (r : Int) = 0 by omega)]
          by_cases c1 : W r < (bstF D W r).2
          · rw [if_pos (Or.inr c1)] at i2
            simp only [if_pos c1]
            exact i2
          · rw [if_neg (by omega)] at i2
            simp only [if_neg c1]
            exact i2
  exact H (fct l.length) 0 (by omega)
/-- The best order of a shop, told by both. -/
theorem best_of (a : Int) (l : List S55) (h : l.length ≤ 1048576) (hs : shopB a l = true) (hl7 : l.length ≤ 7) : ∃ o : List Int, Ev (fun k => spec_BestOrder.f k a l) (o, 0) ∧ Ev (fun k => impl_BestOrder.f k a l) (o, 0) ∧ o.Perm (numsI 0 l.length) ∧
    (0 < l.length → ∃ V : List Int → Int, (∀ p : List Int, p.Perm (numsI 0 l.length) → Ev (fun k => spec_l20Late.f k a l p) (V p) ∧ Ev (fun k => impl_mostLate.f k a l p) (V p)) ∧ ∀ p : List Int, p.Perm (numsI 0 l.length) → V o ≤ V p) := by
  simp only [spec_BestOrder.f, impl_BestOrder.f]
  by_cases h0 : 0 < l.length
  · obtain ⟨V, hV⟩ := late_all a l hl7 h0
    obtain ⟨b1, b2⟩ := best_told a l hl7 h0 V hV
    obtain ⟨k, hk⟩ : ∃ k, fct l.length = k + 1 := ⟨fct l.length - 1, by have := fct_pos l.length; omega⟩
    obtain ⟨⟨j, hj, ej⟩, hle⟩ := bstF_least (decF l.length (numsI 0 l.length)) (fun r => V (decF l.length (numsI 0 l.length) r)) k
    rw [← hk] at ej hle hj
    have eo : (bstF (decF l.length (numsI 0 l.length)) (fun r => V (decF l.length (numsI 0 l.length) r)) (fct l.length)).1 = decF l.length (numsI 0 l.length) j := by rw [ej]
    rw [eo] at b1 b2
    refine ⟨decF l.length (numsI 0 l.length) j, Ev.bind (ev_eq (spec_IsShop a l h) hs) ?_, Ev.bind (ev_eq (impl_IsShop a l h) hs) ?_, decF_perm _ _ _ (numsI_length _ _) hj, fun _ => ⟨V, hV, fun p hp => ?_⟩⟩
    · simp only [if_true]
      exact b1
    · simp only [if_true, Option.bind_some, if_neg (show ¬ (l.length : Int) = 0 by omega), impl_length_ShopJob.f]
      exact Ev.bind (factorial_impl l.length hl7) b2
    · obtain ⟨r, hr, er⟩ := decF_onto l.length (numsI 0 l.length) p (numsI_length _ _) hp
      have := hle r hr
      rw [ej] at this
      simp only [er] at this
      exact this
  · have hl : (l.length : Int) = 0 := by omega
    refine ⟨[], Ev.bind (ev_eq (spec_IsShop a l h) hs) ?_, Ev.bind (ev_eq (impl_IsShop a l h) hs) ?_, by rw [show l.length = 0 by omega]; exact List.Perm.refl _, fun h => absurd h h0⟩
    · simp only [if_true]
      refine Ev.step (fun k => by rw [spec_BestOrder.l0]) ?_
      simp only [if_neg (show ¬ (l.length : Int) > 0 by omega)]
      refine Ev.step (fun k => by rw [spec_BestOrder.j1]) ?_
      simp only [Bool.false_eq_true, if_false]
      exact Ev.now _
    · simp only [if_true, Option.bind_some, if_pos hl]
      exact Ev.now _
theorem shopB_len {a : Int} {l : List S55} (hs : shopB a l = true) : l.length ≤ 7 := by
  simp only [shopB, Bool.and_eq_true, decide_eq_true_eq] at hs
  exact hs.2.2
theorem both_BestOrder (a : Int) (l : List S55) (h : l.length ≤ 1048576) : ∃ r : List Int × Int, Ev (fun k => spec_BestOrder.f k a l) r ∧ Ev (fun k => impl_BestOrder.f k a l) r ∧ r.1.length ≤ 1048576 := by
  cases hs : shopB a l
  · simp only [spec_BestOrder.f, impl_BestOrder.f]
    exact ⟨([], 1), Ev.bind (ev_eq (spec_IsShop a l h) hs) (by simp only [Bool.false_eq_true, if_false]; exact Ev.now _), Ev.bind (ev_eq (impl_IsShop a l h) hs) (by simp only [Bool.false_eq_true, if_false]; exact Ev.now _), by simp⟩
  · obtain ⟨o, h1, h2, hp, _⟩ := best_of a l h hs (shopB_len hs)
    exact ⟨(o, 0), h1, h2, by rw [hp.length_eq, numsI_length]; exact h⟩
theorem FnExactBestOrder : laws_FnExactBestOrder.Pure := by
  intro a l ha hl hw
  refine Ev.rounds (g := fun k => laws_FnExactBestOrder.f k a l) ?_
  simp only [laws_FnExactBestOrder.f, szShopJob l 1048576 (by omega) (by omega) (by omega), Option.bind_some]
  by_cases hs : (1048576 : Int) - l.length < 0
  · simp only [if_pos hs]
    exact Ev.now _
  · simp only [if_neg hs]
    have h0 : l.length ≤ 1048576 := by omega
    have hm : (l.map cvShopJob).length ≤ 1048576 := by simpa using h0
    obtain ⟨r, h1, h2, hr⟩ := both_BestOrder a (l.map cvShopJob) hm
    have e0 : ¬ (1 + (r.1.length : Int) < 0) := by omega
    refine Ev.bind (toShopJobS l h0) ?_
    refine Ev.bind h1 ?_
    refine Ev.bind (toShopJobS l h0) ?_
    refine Ev.bind h2 ?_
    refine Ev.bind (eqInt64S _ (by omega)) ?_
    simp only [if_true, bne_self_eq_false]
    refine Ev.step (fun k => by rw [laws_FnExactBestOrder.j0]) ?_
    simp only [Bool.false_eq_true, if_false]
    refine Ev.bind (toShopJobS l h0) ?_
    refine Ev.bind (eqShopJobS _ (by omega)) ?_
    simp only [if_true]
    refine Ev.bind (markShopJobS _ 1 (by omega) (by omega) (by omega)) ?_
    simp only [if_neg (show ¬ (1 + 3 * ((l.map cvShopJob).length : Int) < 0) by omega)]
    refine Ev.bind (eqInt64S _ (by omega)) ?_
    simp only [if_true, bne_self_eq_false]
    refine Ev.step (fun k => by rw [laws_FnExactBestOrder.j1]) ?_
    simp only [Bool.false_eq_true, if_false]
    refine Ev.bind (markInt64S _ 1 (by omega) (by omega) (by omega)) ?_
    refine Ev.bind (heldInt64S _ 1 (by omega) (by omega)) ?_
    simp only [if_neg e0, if_true]
    refine Ev.bind (toShopJobS l h0) ?_
    refine Ev.bind h2 ?_
    refine Ev.bind (eqInt64S _ (by omega)) ?_
    simp only [if_true, bne_self_eq_false]
    refine Ev.step (fun k => by rw [laws_FnExactBestOrder.j2]) ?_
    simp only [Bool.false_eq_true, if_false]
    refine Ev.bind (heldInt64S _ 1 (by omega) (by omega)) ?_
    simp only [if_neg e0, if_true]
    exact Ev.now _

end Go.Proofs.Ytefnoiajfjbbpaa.Pure
