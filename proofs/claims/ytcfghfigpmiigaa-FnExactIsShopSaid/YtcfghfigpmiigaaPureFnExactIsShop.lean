/- The pure statement of law FnExactIsShop: what the printed functions compute answers true at every input. No condition. -/
import Derived.Test.YtcfghfigpmiigaaPFnExactIsShopx2
set_option linter.unusedVariables false
set_option linter.unusedSimpArgs false
namespace Go.Proofs.Ytcfghfigpmiigaa.Pure
open Go.RowKit Go.Proofs.Ytcfghfigpmiigaa.PFnExactIsShop Go.Proofs.YtcfghfigpmiigaaW.PrintWords Go.Proofs.YtcfghfigpmiigaaW.PrintLast Go.Proofs.YtcfghfigpmiigaaW.PrintMore


/-! #### Numbers and rounds -/
theorem w64 {x : Int} (h1 : -9223372036854775808 ≤ x) (h2 : x ≤ 9223372036854775807) : wrap64 x = x := by
  unfold wrap64
  omega
theorem wf64 {x : Int} (h : (Lit.int .i64 x).wf = true) : -9223372036854775808 ≤ x ∧ x ≤ 9223372036854775807 := by
  simp only [Lit.wf, IntKind.min, IntKind.max, IntKind.signed, IntKind.bits, Bool.and_eq_true, decide_eq_true_eq, if_true] at h
  omega
theorem ev_of {α : Type} {g : Nat → Option α} {r : α} (h : ∀ k, g k = some r) : Ev g r := ⟨0, fun k _ => h k⟩
theorem ev_eq {α : Type} {g : Nat → Option α} {r r' : α} (h : Ev g r) (e : r = r') : Ev g r' := e ▸ h
/-- A loop over a list: what lies behind, what lies ahead. -/
theorem loop_list {α : Type} (l : List α) (Q : List α → List α → Prop) (h0 : Q l []) (hs : ∀ p x s, l = p ++ x :: s → Q (p ++ [x]) s → Q p (x :: s)) : Q [] l := by
  have h : ∀ s p, l = p ++ s → Q p s := by
    intro s
    induction s with
    | nil => intro p hp; rw [List.append_nil] at hp; rw [← hp]; exact h0
    | cons x s ih => intro p hp; exact hs p x s hp (ih (p ++ [x]) (by simp [hp]))
  exact h l [] rfl
theorem mid_lt {α : Type} {l p s : List α} {x : α} (h : l = p ++ x :: s) : (p.length : Int) < (l.length : Int) := by
  rw [h, List.length_append, List.length_cons]; omega
theorem mid_next {α : Type} {l p s : List α} {x : α} (h : l = p ++ x :: s) (hl : l.length ≤ 9223372036854775807) : wrap64 ((p.length : Int) + 1) = ((p ++ [x]).length : Int) := by
  have := mid_lt h
  rw [w64 (by omega) (by omega), List.length_append]; simp
theorem mid_get {α : Type} {l p s : List α} {x : α} (h : l = p ++ x :: s) (z : α) : l.getD (p.length : Int).toNat z = x := by
  rw [h]; simp
theorem get_mid {α : Type} (p s : List α) (x z : α) : (p ++ x :: s).getD (p.length : Int).toNat z = x := by simp
theorem nat_nn (n : Nat) : (0 : Int) ≤ (n : Int) := by omega
theorem nlt_self {α : Type} (l : List α) : ¬ ((l.length : Int) < (l.length : Int)) := by omega
theorem set_mid {α : Type} (p s : List α) (x y : α) : (p ++ x :: s).set ((p.length : Int).toNat) y = p ++ y :: s := by
  rw [Int.toNat_natCast, List.set_append_right _ _ (Nat.le_refl _)]; simp
theorem nil_or_snoc {α : Type} (p : List α) : p = [] ∨ ∃ q y, p = q ++ [y] := by
  rcases List.eq_nil_or_concat p with h | ⟨q, y, h⟩
  · exact .inl h
  · exact .inr ⟨q, y, by rw [h, List.concat_eq_append]⟩
theorem szShopJob (l : List S84) (a : Int) (ha : 0 ≤ a) (hb : a ≤ 1048576) (h : l.length ≤ 9000000000000000000) : laws_szShopJobS.f l a = some (if a - l.length < 0 then (-1 : Int) else a - l.length) := by
  unfold laws_szShopJobS.f
  rw [w64 (by omega) (by omega)]
  split <;> rfl
def cvShopJob (x : S84) : S82 := ⟨x.f0, x.f1, x.f2⟩
theorem toShopJobS (l : List S84) (h : l.length ≤ 1048576) : Ev (fun k => laws_toShopJobS.f k l) (l.map cvShopJob) := by
  have H := loop_list l (fun p s => ∀ (a t : List S82), a.length = p.length → t.length = s.length → Ev (fun k => laws_toShopJobS.l0 k l (a ++ t) (p.length : Int)) (a ++ s.map cvShopJob)) ?_ ?_
  · have := H [] (List.replicate l.length z82) rfl (by simp)
    simp only [laws_toShopJobS.f, Int.toNat_natCast, if_pos (nat_nn l.length)]
    rw [show (fun k => if l.length ≤ _ then _ else _) = (fun k => laws_toShopJobS.l0 k l (List.replicate l.length z82) 0) from funext fun k => if_pos (by omega)]
    simpa using this
  · intro a t ha ht
    refine Ev.step (fun k => by rw [laws_toShopJobS.l0]) ?_
    simp only [if_neg (nlt_self l)]
    have : t = [] := List.eq_nil_of_length_eq_zero (by simpa using ht)
    subst this
    exact Ev.now _
  · intro p x s he ih a t ha ht
    obtain ⟨y, t, rfl⟩ : ∃ y t', t = y :: t' := by cases t with | nil => simp at ht | cons y t => exact ⟨y, t, rfl⟩
    refine Ev.step (fun k => by rw [laws_toShopJobS.l0]) ?_
    have e : ((p.length : Int) < ((a ++ y :: t).length : Int)) := by simp; omega
    have e2 := set_mid a t y (cvShopJob x)
    rw [ha] at e2
    simp only [if_pos (mid_lt he), if_pos (nat_nn p.length), laws_toShopJob.f, Option.bind_some, if_pos e, mid_next he (by omega), rd_T84, mid_get he]
    have := ih (a ++ [cvShopJob x]) t (by simp [ha]) (by simpa using ht)
    simp only [cvShopJob, List.append_assoc, List.singleton_append, List.map_cons] at this e2 ⊢
    rw [e2]
    exact this
theorem eqShopJobS (l : List S82) (h : l.length ≤ 9000000000000000000) : Ev (fun k => laws_eqShopJobS.f k l l) true := by
  simp only [laws_eqShopJobS.f, if_true]
  refine loop_list l (fun p s => Ev (fun k => laws_eqShopJobS.l0 k l l (p.length : Int)) true) ?_ ?_
  · refine Ev.step (fun k => by rw [laws_eqShopJobS.l0]) ?_
    simp only [if_neg (nlt_self l)]
    exact Ev.now _
  · intro p x s he ih
    refine Ev.step (fun k => by rw [laws_eqShopJobS.l0]) ?_
    simp only [if_pos (mid_lt he), if_pos (nat_nn p.length), laws_eqShopJob.f, if_true, Option.bind_some, mid_next he (by omega)]
    exact ih
def inR (a lo hi : Int) : Bool := decide (lo ≤ a) && decide (a ≤ hi)
theorem inR_iff {a lo hi : Int} : inR a lo hi = true ↔ lo ≤ a ∧ a ≤ hi := by simp [inR]
theorem l01In (a lo hi : Int) : spec_l01In.f a lo hi = some (inR a lo hi) := by
  unfold spec_l01In.f inR
  split
  · rename_i h; rw [decide_eq_true (show lo ≤ a from h), Bool.true_and]
  · rename_i h; rw [decide_eq_false (show ¬ lo ≤ a from h), Bool.false_and]
theorem inRange (a lo hi : Int) : impl_inRange.f a lo hi = some (inR a lo hi) := by
  unfold impl_inRange.f inR
  split
  · rename_i h; rw [decide_eq_true (show lo ≤ a from h), Bool.true_and]
  · rename_i h; rw [decide_eq_false (show ¬ lo ≤ a from h), Bool.false_and]
def okShop (x : S82) : Bool := inR x.f0 0 9 && (inR x.f1 0 100000 && inR x.f2 0 100000)
def shopB (a : Int) (l : List S82) : Bool := l.all okShop && (inR a 0 100000 && decide (l.length ≤ 7))
theorem spec_IsShop (a : Int) (l : List S82) (h : l.length ≤ 1048576) : Ev (fun k => spec_IsShop.f k a l) (shopB a l) := by
  refine loop_list l (fun p s => Ev (fun k => spec_IsShop.l0 k a l (p.length : Int)) (s.all okShop && (inR a 0 100000 && decide (l.length ≤ 7)))) ?_ ?_
  · refine Ev.step (fun k => by rw [spec_IsShop.l0]) ?_
    simp only [if_neg (nlt_self l), List.all_nil, Bool.true_and, l01In, Option.bind_some]
    cases inR a 0 100000 <;> simp <;> first | exact Ev.now _ | exact ev_eq (Ev.now _) (decide_eq_decide.2 (by omega))
  · intro p x s he ih
    refine Ev.step (fun k => by rw [spec_IsShop.l0]) ?_
    simp only [if_pos (mid_lt he), if_pos (nat_nn p.length), mid_next he (by omega), rd_T82, mid_get he, l01In, Option.bind_some, List.all_cons]
    cases h0 : inR x.f0 0 9 <;> cases h1 : inR x.f1 0 100000 <;> cases h2 : inR x.f2 0 100000 <;> simp [okShop, h0, h1, h2] <;> first | exact Ev.now _ | simpa [mid_next he (by omega)] using ih
theorem impl_IsShop_1_ok (x : S82) : impl_IsShop_1.f x.f0 x.f1 x.f2 = some (!(okShop x)) := by
  simp only [impl_IsShop_1.f, impl_isMinutes.f, inRange, Option.bind_some, okShop]
  cases inR x.f0 0 9 <;> cases inR x.f1 0 100000 <;> cases inR x.f2 0 100000 <;> rfl
theorem contains_impl_IsShop_1 (l : List S82) (h : l.length ≤ 1048576) : Ev (fun k => slices_ContainsFunc_at_impl_IsShop_1.f k l) (!(l.all okShop)) := by
  have H := loop_list l (fun p s => ∃ r, Ev (fun k => slices_IndexFunc_at_impl_IsShop_1.l0 k l (l.length : Int) (p.length : Int)) r ∧ decide (r ≥ 0) = !(s.all okShop)) ?_ ?_
  · obtain ⟨r, hr, e⟩ := H
    rw [← e]
    exact Ev.bind hr (Ev.now _)
  · refine ⟨-1, Ev.step (fun k => by rw [slices_IndexFunc_at_impl_IsShop_1.l0]) ?_, by simp⟩
    simp only [if_neg (nlt_self l)]
    exact Ev.now _
  · rintro p x s he ⟨r, ih, e⟩
    by_cases hx : okShop x = true
    · refine ⟨r, Ev.step (fun k => by rw [slices_IndexFunc_at_impl_IsShop_1.l0]) ?_, by rw [e]; simp [hx]⟩
      simp only [if_pos (mid_lt he), if_pos (nat_nn p.length), rd_T82, mid_get he, impl_IsShop_1_ok, hx, Option.bind_some, mid_next he (by omega)]
      exact ih
    · refine ⟨(p.length : Int), Ev.step (fun k => by rw [slices_IndexFunc_at_impl_IsShop_1.l0]) ?_, by simp [hx]⟩
      simp only [if_pos (mid_lt he), if_pos (nat_nn p.length), rd_T82, mid_get he, impl_IsShop_1_ok, Bool.eq_false_iff.2 hx, Option.bind_some]
      exact Ev.now _
theorem impl_IsShop (a : Int) (l : List S82) (h : l.length ≤ 1048576) : Ev (fun k => impl_IsShop.f k a l) (shopB a l) := by
  simp only [impl_IsShop.f, impl_isMinutes.f, inRange, Option.bind_some, shopB]
  cases inR a 0 100000
  · simp only [Bool.false_eq_true, if_false, Bool.false_and, Bool.and_false]
    exact Ev.now _
  · by_cases hl : (l.length : Int) ≤ 7
    · simp only [if_pos hl, if_true]
      exact ev_eq (Ev.bind (contains_impl_IsShop_1 l h) (Ev.now _)) (by simp [show l.length ≤ 7 by omega])
    · simp only [if_neg hl, if_true]
      exact ev_eq (Ev.now _) (by simp [show ¬ l.length ≤ 7 by omega])

theorem FnExactIsShop : laws_FnExactIsShop.Pure := by
  intro a l ha hl hw
  refine Ev.rounds (g := fun k => laws_FnExactIsShop.f k a l) ?_
  simp only [laws_FnExactIsShop.f, szShopJob l 1048576 (by omega) (by omega) (by omega), Option.bind_some]
  by_cases hs : (1048576 : Int) - l.length < 0
  · simp only [if_pos hs]
    exact Ev.now _
  · simp only [if_neg hs]
    have h0 : l.length ≤ 1048576 := by omega
    have hm : (l.map cvShopJob).length ≤ 1048576 := by simpa using h0
    refine Ev.bind (toShopJobS l h0) ?_
    refine Ev.bind (spec_IsShop a _ hm) ?_
    refine Ev.bind (toShopJobS l h0) ?_
    refine Ev.bind (impl_IsShop a _ hm) ?_
    simp only [bne_self_eq_false, Bool.false_eq_true, if_false]
    refine Ev.bind (toShopJobS l h0) ?_
    refine Ev.bind (eqShopJobS _ (by omega)) ?_
    exact Ev.now _

end Go.Proofs.Ytcfghfigpmiigaa.Pure
