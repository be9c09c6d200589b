/- The pure statement of law FnExactFindPaper: what the printed functions compute answers true at every input. No condition. -/
import Derived.Test.YtmdjdocagccljaaPFnExactFindPaperx5
set_option linter.unusedVariables false
set_option linter.unusedSimpArgs false
namespace Go.Proofs.Ytmdjdocagccljaa.Pure
open Go.RowKit Go.Proofs.Ytmdjdocagccljaa.PFnExactFindPaper Go.Proofs.YtmdjdocagccljaaW.PrintWords Go.Proofs.YtmdjdocagccljaaW.PrintLast Go.Proofs.YtmdjdocagccljaaW.PrintMore


/-! #### Numbers and rounds -/
theorem w64 {x : Int} (h1 : -9223372036854775808 ≤ x) (h2 : x ≤ 9223372036854775807) : wrap64 x = x := by
  unfold wrap64
  omega
theorem wf64 {x : Int} (h : (Lit.int .i64 x).wf = true) : -9223372036854775808 ≤ x ∧ x ≤ 9223372036854775807 := by
  simp only [Lit.wf, IntKind.min, IntKind.max, IntKind.signed, IntKind.bits, Bool.and_eq_true, decide_eq_true_eq, if_true] at h
  omega
theorem ev_of {α : Type} {g : Nat → Option α} {r : α} (h : ∀ k, g k = some r) : Ev g r := ⟨0, fun k _ => h k⟩
theorem ev_eq {α : Type} {g : Nat → Option α} {r r' : α} (h : Ev g r) (e : r = r') : Ev g r' := e ▸ h
/-- A loop over a list: what lies behind, what lies ahead. -/
theorem loop_list {α : Type} (l : List α) (Q : List α → List α → Prop) (h0 : Q l []) (hs : ∀ p x s, l = p ++ x :: s → Q (p ++ [x]) s → Q p (x :: s)) : Q [] l := by
  have h : ∀ s p, l = p ++ s → Q p s := by
    intro s
    induction s with
    | nil => intro p hp; rw [List.append_nil] at hp; rw [← hp]; exact h0
    | cons x s ih => intro p hp; exact hs p x s hp (ih (p ++ [x]) (by simp [hp]))
  exact h l [] rfl
theorem mid_lt {α : Type} {l p s : List α} {x : α} (h : l = p ++ x :: s) : (p.length : Int) < (l.length : Int) := by
  rw [h, List.length_append, List.length_cons]; omega
theorem mid_next {α : Type} {l p s : List α} {x : α} (h : l = p ++ x :: s) (hl : l.length ≤ 9223372036854775807) : wrap64 ((p.length : Int) + 1) = ((p ++ [x]).length : Int) := by
  have := mid_lt h
  rw [w64 (by omega) (by omega), List.length_append]; simp
theorem mid_get {α : Type} {l p s : List α} {x : α} (h : l = p ++ x :: s) (z : α) : l.getD (p.length : Int).toNat z = x := by
  rw [h]; simp
theorem get_mid {α : Type} (p s : List α) (x z : α) : (p ++ x :: s).getD (p.length : Int).toNat z = x := by simp
theorem nat_nn (n : Nat) : (0 : Int) ≤ (n : Int) := by omega
theorem nlt_self {α : Type} (l : List α) : ¬ ((l.length : Int) < (l.length : Int)) := by omega
theorem set_mid {α : Type} (p s : List α) (x y : α) : (p ++ x :: s).set ((p.length : Int).toNat) y = p ++ y :: s := by
  rw [Int.toNat_natCast, List.set_append_right _ _ (Nat.le_refl _)]; simp
theorem nil_or_snoc {α : Type} (p : List α) : p = [] ∨ ∃ q y, p = q ++ [y] := by
  rcases List.eq_nil_or_concat p with h | ⟨q, y, h⟩
  · exact .inl h
  · exact .inr ⟨q, y, by rw [h, List.concat_eq_append]⟩
theorem szPaper (l : List S97) (a : Int) (ha : 0 ≤ a) (hb : a ≤ 1048576) (h : l.length ≤ 9000000000000000000) : laws_szPaperS.f l a = some (if a - l.length < 0 then (-1 : Int) else a - l.length) := by
  unfold laws_szPaperS.f
  rw [w64 (by omega) (by omega)]
  split <;> rfl
def cvPaper (x : S97) : S94 := ⟨x.f0, x.f1⟩
theorem toPaperS (l : List S97) (h : l.length ≤ 1048576) : Ev (fun k => laws_toPaperS.f k l) (l.map cvPaper) := by
  have H := loop_list l (fun p s => ∀ (a t : List S94), a.length = p.length → t.length = s.length → Ev (fun k => laws_toPaperS.l0 k l (a ++ t) (p.length : Int)) (a ++ s.map cvPaper)) ?_ ?_
  · have := H [] (List.replicate l.length z94) rfl (by simp)
    simp only [laws_toPaperS.f, Int.toNat_natCast, if_pos (nat_nn l.length)]
    rw [show (fun k => if l.length ≤ _ then _ else _) = (fun k => laws_toPaperS.l0 k l (List.replicate l.length z94) 0) from funext fun k => if_pos (by omega)]
    simpa using this
  · intro a t ha ht
    refine Ev.step (fun k => by rw [laws_toPaperS.l0]) ?_
    simp only [if_neg (nlt_self l)]
    have : t = [] := List.eq_nil_of_length_eq_zero (by simpa using ht)
    subst this
    exact Ev.now _
  · intro p x s he ih a t ha ht
    obtain ⟨y, t, rfl⟩ : ∃ y t', t = y :: t' := by cases t with | nil => simp at ht | cons y t => exact ⟨y, t, rfl⟩
    refine Ev.step (fun k => by rw [laws_toPaperS.l0]) ?_
    have e : ((p.length : Int) < ((a ++ y :: t).length : Int)) := by simp; omega
    have e2 := set_mid a t y (cvPaper x)
    rw [ha] at e2
    simp only [if_pos (mid_lt he), if_pos (nat_nn p.length), laws_toPaper.f, Option.bind_some, if_pos e, mid_next he (by omega), rd_T97, mid_get he]
    have := ih (a ++ [cvPaper x]) t (by simp [ha]) (by simpa using ht)
    simp only [cvPaper, List.append_assoc, List.singleton_append, List.map_cons] at this e2 ⊢
    rw [e2]
    exact this
theorem eqPaperS (l : List S94) (h : l.length ≤ 9000000000000000000) : Ev (fun k => laws_eqPaperS.f k l l) true := by
  simp only [laws_eqPaperS.f, if_true]
  refine loop_list l (fun p s => Ev (fun k => laws_eqPaperS.l0 k l l (p.length : Int)) true) ?_ ?_
  · refine Ev.step (fun k => by rw [laws_eqPaperS.l0]) ?_
    simp only [if_neg (nlt_self l)]
    exact Ev.now _
  · intro p x s he ih
    refine Ev.step (fun k => by rw [laws_eqPaperS.l0]) ?_
    simp only [if_pos (mid_lt he), if_pos (nat_nn p.length), laws_eqPaper.f, if_true, Option.bind_some, mid_next he (by omega)]
    exact ih
def inR (a lo hi : Int) : Bool := decide (lo ≤ a) && decide (a ≤ hi)
theorem inR_iff {a lo hi : Int} : inR a lo hi = true ↔ lo ≤ a ∧ a ≤ hi := by simp [inR]
theorem l01In (a lo hi : Int) : spec_l01In.f a lo hi = some (inR a lo hi) := by
  unfold spec_l01In.f inR
  split
  · rename_i h; rw [decide_eq_true (show lo ≤ a from h), Bool.true_and]
  · rename_i h; rw [decide_eq_false (show ¬ lo ≤ a from h), Bool.false_and]
theorem inRange (a lo hi : Int) : impl_inRange.f a lo hi = some (inR a lo hi) := by
  unfold impl_inRange.f inR
  split
  · rename_i h; rw [decide_eq_true (show lo ≤ a from h), Bool.true_and]
  · rename_i h; rw [decide_eq_false (show ¬ lo ≤ a from h), Bool.false_and]
def paperB (a b : Int) : Bool := inR a 30 500 && inR b 50 300
theorem spec_IsPaper (a b : Int) : spec_IsPaper.f a b = some (paperB a b) := by
  simp only [spec_IsPaper.f, l01In, Option.bind_some, paperB]
  cases inR a 30 500 <;> cases inR b 50 300 <;> rfl
theorem impl_IsPaper (a b : Int) : impl_IsPaper.f a b = some (paperB a b) := by
  simp only [impl_IsPaper.f, inRange, Option.bind_some, paperB]
  cases inR a 30 500 <;> cases inR b 50 300 <;> rfl
def okPaper (x : S94) : Bool := paperB x.f0 x.f1
theorem impl_FindPaper_1_ok (x : S94) : impl_FindPaper_1.f x.f0 x.f1 = some (!(okPaper x)) := by
  simp only [impl_FindPaper_1.f, impl_IsPaper, Option.bind_some, okPaper]
theorem contains_impl_FindPaper_1 (l : List S94) (h : l.length ≤ 1048576) : Ev (fun k => slices_ContainsFunc_at_impl_FindPaper_1.f k l) (!(l.all okPaper)) := by
  have H := loop_list l (fun p s => ∃ r, Ev (fun k => slices_IndexFunc_at_impl_FindPaper_1.l0 k l (l.length : Int) (p.length : Int)) r ∧ decide (r ≥ 0) = !(s.all okPaper)) ?_ ?_
  · obtain ⟨r, hr, e⟩ := H
    rw [← e]
    exact Ev.bind hr (Ev.now _)
  · refine ⟨-1, Ev.step (fun k => by rw [slices_IndexFunc_at_impl_FindPaper_1.l0]) ?_, by simp⟩
    simp only [if_neg (nlt_self l)]
    exact Ev.now _
  · rintro p x s he ⟨r, ih, e⟩
    by_cases hx : okPaper x = true
    · refine ⟨r, Ev.step (fun k => by rw [slices_IndexFunc_at_impl_FindPaper_1.l0]) ?_, by rw [e]; simp [hx]⟩
      simp only [if_pos (mid_lt he), if_pos (nat_nn p.length), rd_T94, mid_get he, impl_FindPaper_1_ok, hx, Option.bind_some, mid_next he (by omega)]
      exact ih
    · refine ⟨(p.length : Int), Ev.step (fun k => by rw [slices_IndexFunc_at_impl_FindPaper_1.l0]) ?_, by simp [hx]⟩
      simp only [if_pos (mid_lt he), if_pos (nat_nn p.length), rd_T94, mid_get he, impl_FindPaper_1_ok, Bool.eq_false_iff.2 hx, Option.bind_some]
      exact Ev.now _
def thickB (x : S94) : Int := wrap64 (Int.tdiv (wrap64 ((wrap64 (x.f0 * x.f1)) + 50)) 100)
theorem thick_s (x : S94) : spec_l18Thick.f x.f0 x.f1 = some (thickB x) := rfl
theorem thick_i (x : S94) : impl_thicknessOf.f x.f0 x.f1 = some (thickB x) := rfl
def bi : Option Nat → Int
  | none => -1
  | some n => (n : Int)
theorem both_best (l : List S94) (a b : Int) (h : l.length ≤ 1048576) : ∃ r, Ev (fun k => spec_FindPaper.l1 k l a b (-1) 0) r ∧ Ev (fun k => impl_FindPaper.l0 k l a b (-1) l (l.length : Int) 0) r := by
  refine loop_list l (fun p s => ∀ o : Option Nat, (∀ n, o = some n → n < l.length) → ∃ r, Ev (fun k => spec_FindPaper.l1 k l a b (bi o) (p.length : Int)) r ∧ Ev (fun k => impl_FindPaper.l0 k l a b (bi o) l (l.length : Int) (p.length : Int)) r) ?_ ?_ none (fun n hn => by cases hn)
  · intro o ho
    by_cases hn : bi o < 0
    · refine ⟨(0, 4), Ev.step (fun k => by rw [spec_FindPaper.l1]) ?_, Ev.step (fun k => by rw [impl_FindPaper.l0]) ?_⟩ <;> simp only [if_neg (nlt_self l), if_pos hn] <;> exact Ev.now _
    · refine ⟨(bi o, 0), Ev.step (fun k => by rw [spec_FindPaper.l1]) ?_, Ev.step (fun k => by rw [impl_FindPaper.l0]) ?_⟩ <;> simp only [if_neg (nlt_self l), if_neg hn] <;> exact Ev.now _
  · intro p x s he ih o ho
    have hlt := mid_lt he
    cases hr : inR (thickB x) a b
    · obtain ⟨r, h1, h2⟩ := ih o ho
      refine ⟨r, Ev.step (fun k => by rw [spec_FindPaper.l1]) ?_, Ev.step (fun k => by rw [impl_FindPaper.l0]) ?_⟩
      · simp only [if_pos hlt, if_pos (nat_nn p.length), rd_T94, mid_get he, thick_s, l01In, hr, Option.bind_some, mid_next he (by omega), Bool.false_eq_true, if_false]
        exact h1
      · simp only [if_pos hlt, if_pos (nat_nn p.length), rd_T94, mid_get he, thick_i, inRange, hr, Option.bind_some, mid_next he (by omega), Bool.false_eq_true, if_false]
        exact h2
    · obtain ⟨r1, g1, g2⟩ := ih (some p.length) (fun n hn => by cases hn; omega)
      cases o with
      | none =>
        refine ⟨r1, Ev.step (fun k => by rw [spec_FindPaper.l1]) ?_, Ev.step (fun k => by rw [impl_FindPaper.l0]) ?_⟩
        · simp only [if_pos hlt, if_pos (nat_nn p.length), rd_T94, mid_get he, thick_s, l01In, hr, Option.bind_some, mid_next he (by omega), if_true, bi, if_pos (show (-1 : Int) < 0 by omega)]
          exact g1
        · simp only [if_pos hlt, if_pos (nat_nn p.length), rd_T94, mid_get he, thick_i, inRange, hr, Option.bind_some, mid_next he (by omega), if_true, bi, if_pos (show (-1 : Int) < 0 by omega)]
          exact g2
      | some n =>
        have hn := ho n rfl
        have ey : l.getD (n : Int).toNat z94 = l[n] := by simp [List.getD_eq_getElem?_getD, hn]
        by_cases hg : x.f0 < (l[n]).f0
        · refine ⟨r1, Ev.step (fun k => by rw [spec_FindPaper.l1]) ?_, Ev.step (fun k => by rw [impl_FindPaper.l0]) ?_⟩
          · simp only [if_pos hlt, if_pos (nat_nn p.length), rd_T94, mid_get he, thick_s, l01In, hr, Option.bind_some, mid_next he (by omega), if_true, bi, if_neg (show ¬ (n : Int) < 0 by omega), if_pos (nat_nn n), if_pos (show (n : Int) < l.length by omega), ey, if_pos hg]
            exact g1
          · simp only [if_pos hlt, if_pos (nat_nn p.length), rd_T94, mid_get he, thick_i, inRange, hr, Option.bind_some, mid_next he (by omega), if_true, bi, if_neg (show ¬ (n : Int) < 0 by omega), if_pos (nat_nn n), if_pos (show (n : Int) < l.length by omega), ey, if_pos hg]
            exact g2
        · obtain ⟨r, h1, h2⟩ := ih (some n) ho
          refine ⟨r, Ev.step (fun k => by rw [spec_FindPaper.l1]) ?_, Ev.step (fun k => by rw [impl_FindPaper.l0]) ?_⟩
          · simp only [if_pos hlt, if_pos (nat_nn p.length), rd_T94, mid_get he, thick_s, l01In, hr, Option.bind_some, mid_next he (by omega), if_true, bi, if_neg (show ¬ (n : Int) < 0 by omega), if_pos (nat_nn n), if_pos (show (n : Int) < l.length by omega), ey, if_neg hg]
            exact h1
          · simp only [if_pos hlt, if_pos (nat_nn p.length), rd_T94, mid_get he, thick_i, inRange, hr, Option.bind_some, mid_next he (by omega), if_true, bi, if_neg (show ¬ (n : Int) < 0 by omega), if_pos (nat_nn n), if_pos (show (n : Int) < l.length by omega), ey, if_neg hg]
            exact h2
theorem spec_find (l : List S94) (a b : Int) (h : l.length ≤ 1048576) (R : Int × Int) (hR : Ev (fun k => spec_FindPaper.l1 k l a b (-1) 0) R) :
    Ev (fun k => spec_FindPaper.f k l a b) (if l.all okPaper = true ∧ l.length ≤ 64 then (if inR a 0 1000000000 = true ∧ inR b 0 1000000000 = true then R else (0, 2)) else (0, 1)) := by
  refine loop_list l (fun p s => Ev (fun k => spec_FindPaper.l0 k l a b (p.length : Int)) (if s.all okPaper = true ∧ l.length ≤ 64 then (if inR a 0 1000000000 = true ∧ inR b 0 1000000000 = true then R else (0, 2)) else (0, 1))) ?_ ?_
  · refine Ev.step (fun k => by rw [spec_FindPaper.l0]) ?_
    simp only [if_neg (nlt_self l), l01In, Option.bind_some, List.all_nil, true_and]
    by_cases hl : (l.length : Int) > 64
    · simp only [if_pos hl, if_neg (show ¬ l.length ≤ 64 by omega)]
      exact Ev.now _
    · simp only [if_neg hl, if_pos (show l.length ≤ 64 by omega)]
      cases ha : inR a 0 1000000000 <;> cases hb : inR b 0 1000000000 <;> simp only [Bool.false_eq_true, if_false, if_true, Bool.not_false, Bool.not_true, false_and, and_false, and_self]
      · exact Ev.step (fun k => by rw [spec_FindPaper.j1, if_pos rfl]) (Ev.now _)
      · exact Ev.step (fun k => by rw [spec_FindPaper.j1, if_pos rfl]) (Ev.now _)
      · exact Ev.step (fun k => by rw [spec_FindPaper.j1, if_pos rfl]) (Ev.now _)
      · refine Ev.step (fun k => by rw [spec_FindPaper.j1]) ?_
        simp only [Bool.false_eq_true, if_false]
        exact hR
  · intro p x s he ih
    refine Ev.step (fun k => by rw [spec_FindPaper.l0]) ?_
    simp only [if_pos (mid_lt he), if_pos (nat_nn p.length), rd_T94, mid_get he, spec_IsPaper, Option.bind_some, mid_next he (by omega)]
    cases hx : paperB x.f0 x.f1
    · simp only [Bool.false_eq_true, if_false]
      exact ev_eq (Ev.now _) (by rw [if_neg]; simp [okPaper, hx])
    · simp only [if_true]
      exact ev_eq ih (by simp [okPaper, hx])
theorem impl_find (l : List S94) (a b : Int) (h : l.length ≤ 1048576) (R : Int × Int) (hR : Ev (fun k => impl_FindPaper.l0 k l a b (-1) l (l.length : Int) 0) R) :
    Ev (fun k => impl_FindPaper.f k l a b) (if l.all okPaper = true ∧ l.length ≤ 64 then (if inR a 0 1000000000 = true ∧ inR b 0 1000000000 = true then R else (0, 2)) else (0, 1)) := by
  simp only [impl_FindPaper.f]
  by_cases hl : (l.length : Int) > 64
  · simp only [if_pos hl, if_neg (show ¬ (l.all okPaper = true ∧ l.length ≤ 64) by omega)]
    exact Ev.step (fun k => by rw [impl_FindPaper.j0, if_pos rfl]) (Ev.now _)
  · simp only [if_neg hl]
    refine Ev.bind (contains_impl_FindPaper_1 l h) ?_
    refine Ev.step (fun k => by rw [impl_FindPaper.j0]) ?_
    cases ho : l.all okPaper
    · simp only [Bool.not_false, if_true, Bool.false_eq_true, false_and, if_false]
      exact Ev.now _
    · simp only [Bool.not_true, Bool.false_eq_true, if_false, show l.length ≤ 64 by omega, and_self, if_true, inRange, Option.bind_some]
      cases ha : inR a 0 1000000000 <;> cases hb : inR b 0 1000000000 <;> simp only [Bool.false_eq_true, if_false, if_true, false_and, and_false, and_self] <;> first | exact Ev.now _ | exact hR
theorem both_FindPaper (l : List S94) (a b : Int) (h : l.length ≤ 1048576) : ∃ r, Ev (fun k => spec_FindPaper.f k l a b) r ∧ Ev (fun k => impl_FindPaper.f k l a b) r := by
  obtain ⟨R, h1, h2⟩ := both_best l a b h
  exact ⟨_, spec_find l a b h R h1, impl_find l a b h R h2⟩
theorem FnExactFindPaper : laws_FnExactFindPaper.Pure := by
  intro l a b hl hw _ _
  refine Ev.rounds (g := fun k => laws_FnExactFindPaper.f k l a b) ?_
  simp only [laws_FnExactFindPaper.f, szPaper l 1048576 (by omega) (by omega) (by omega), Option.bind_some]
  by_cases hs : (1048576 : Int) - l.length < 0
  · simp only [if_pos hs]
    exact Ev.now _
  · simp only [if_neg hs]
    have h0 : l.length ≤ 1048576 := by omega
    have hm : (l.map cvPaper).length ≤ 1048576 := by simpa using h0
    obtain ⟨r, h1, h2⟩ := both_FindPaper (l.map cvPaper) a b hm
    refine Ev.bind (toPaperS l h0) ?_
    refine Ev.bind h1 ?_
    refine Ev.bind (toPaperS l h0) ?_
    refine Ev.bind h2 ?_
    simp only [if_true, bne_self_eq_false]
    refine Ev.step (fun k => by rw [laws_FnExactFindPaper.j0]) ?_
    simp only [Bool.false_eq_true, if_false]
    refine Ev.bind (toPaperS l h0) ?_
    refine Ev.bind (eqPaperS _ (by omega)) ?_
    simp only [if_true]
    exact Ev.now _

end Go.Proofs.Ytmdjdocagccljaa.Pure
