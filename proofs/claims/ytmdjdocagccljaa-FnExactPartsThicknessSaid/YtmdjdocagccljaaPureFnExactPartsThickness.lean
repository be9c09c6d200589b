/- The pure statement of law FnExactPartsThickness: what the printed functions compute answers true at every input. No condition. -/
import Derived.Test.YtmdjdocagccljaaPFnExactPartsThicknessx3
set_option linter.unusedVariables false
set_option linter.unusedSimpArgs false
namespace Go.Proofs.Ytmdjdocagccljaa.Pure
open Go.RowKit Go.Proofs.Ytmdjdocagccljaa.PFnExactPartsThickness Go.Proofs.YtmdjdocagccljaaW.PrintWords Go.Proofs.YtmdjdocagccljaaW.PrintLast Go.Proofs.YtmdjdocagccljaaW.PrintMore


/-! #### Numbers and rounds -/
theorem w64 {x : Int} (h1 : -9223372036854775808 ≤ x) (h2 : x ≤ 9223372036854775807) : wrap64 x = x := by
  unfold wrap64
  omega
theorem wf64 {x : Int} (h : (Lit.int .i64 x).wf = true) : -9223372036854775808 ≤ x ∧ x ≤ 9223372036854775807 := by
  simp only [Lit.wf, IntKind.min, IntKind.max, IntKind.signed, IntKind.bits, Bool.and_eq_true, decide_eq_true_eq, if_true] at h
  omega
theorem ev_of {α : Type} {g : Nat → Option α} {r : α} (h : ∀ k, g k = some r) : Ev g r := ⟨0, fun k _ => h k⟩
theorem ev_eq {α : Type} {g : Nat → Option α} {r r' : α} (h : Ev g r) (e : r = r') : Ev g r' := e ▸ h
/-- A loop over a list: what lies behind, what lies ahead. -/
theorem loop_list {α : Type} (l : List α) (Q : List α → List α → Prop) (h0 : Q l []) (hs : ∀ p x s, l = p ++ x :: s → Q (p ++ [x]) s → Q p (x :: s)) : Q [] l := by
  have h : ∀ s p, l = p ++ s → Q p s := by
    intro s
    induction s with
    | nil => intro p hp; rw [List.append_nil] at hp; rw [← hp]; exact h0
    | cons x s ih => intro p hp; exact hs p x s hp (ih (p ++ [x]) (by simp [hp]))
  exact h l [] rfl
theorem mid_lt {α : Type} {l p s : List α} {x : α} (h : l = p ++ x :: s) : (p.length : Int) < (l.length : Int) := by
  rw [h, List.length_append, List.length_cons]; omega
theorem mid_next {α : Type} {l p s : List α} {x : α} (h : l = p ++ x :: s) (hl : l.length ≤ 9223372036854775807) : wrap64 ((p.length : Int) + 1) = ((p ++ [x]).length : Int) := by
  have := mid_lt h
  rw [w64 (by omega) (by omega), List.length_append]; simp
theorem mid_get {α : Type} {l p s : List α} {x : α} (h : l = p ++ x :: s) (z : α) : l.getD (p.length : Int).toNat z = x := by
  rw [h]; simp
theorem get_mid {α : Type} (p s : List α) (x z : α) : (p ++ x :: s).getD (p.length : Int).toNat z = x := by simp
theorem nat_nn (n : Nat) : (0 : Int) ≤ (n : Int) := by omega
theorem nlt_self {α : Type} (l : List α) : ¬ ((l.length : Int) < (l.length : Int)) := by omega
theorem set_mid {α : Type} (p s : List α) (x y : α) : (p ++ x :: s).set ((p.length : Int).toNat) y = p ++ y :: s := by
  rw [Int.toNat_natCast, List.set_append_right _ _ (Nat.le_refl _)]; simp
theorem nil_or_snoc {α : Type} (p : List α) : p = [] ∨ ∃ q y, p = q ++ [y] := by
  rcases List.eq_nil_or_concat p with h | ⟨q, y, h⟩
  · exact .inl h
  · exact .inr ⟨q, y, by rw [h, List.concat_eq_append]⟩
theorem szPart (l : List S105) (a : Int) (ha : 0 ≤ a) (hb : a ≤ 1048576) (h : l.length ≤ 9000000000000000000) : laws_szPartS.f l a = some (if a - l.length < 0 then (-1 : Int) else a - l.length) := by
  unfold laws_szPartS.f
  rw [w64 (by omega) (by omega)]
  split <;> rfl
def cvPart (x : S105) : S101 := ⟨x.f0, ⟨x.f1.f0, x.f1.f1⟩⟩
theorem toPartS (l : List S105) (h : l.length ≤ 1048576) : Ev (fun k => laws_toPartS.f k l) (l.map cvPart) := by
  have H := loop_list l (fun p s => ∀ (a t : List S101), a.length = p.length → t.length = s.length → Ev (fun k => laws_toPartS.l0 k l (a ++ t) (p.length : Int)) (a ++ s.map cvPart)) ?_ ?_
  · have := H [] (List.replicate l.length z101) rfl (by simp)
    simp only [laws_toPartS.f, Int.toNat_natCast, if_pos (nat_nn l.length)]
    rw [show (fun k => if l.length ≤ _ then _ else _) = (fun k => laws_toPartS.l0 k l (List.replicate l.length z101) 0) from funext fun k => if_pos (by omega)]
    simpa using this
  · intro a t ha ht
    refine Ev.step (fun k => by rw [laws_toPartS.l0]) ?_
    simp only [if_neg (nlt_self l)]
    have : t = [] := List.eq_nil_of_length_eq_zero (by simpa using ht)
    subst this
    exact Ev.now _
  · intro p x s he ih a t ha ht
    obtain ⟨y, t, rfl⟩ : ∃ y t', t = y :: t' := by cases t with | nil => simp at ht | cons y t => exact ⟨y, t, rfl⟩
    refine Ev.step (fun k => by rw [laws_toPartS.l0]) ?_
    have e : ((p.length : Int) < ((a ++ y :: t).length : Int)) := by simp; omega
    have e2 := set_mid a t y (cvPart x)
    rw [ha] at e2
    simp only [if_pos (mid_lt he), if_pos (nat_nn p.length), laws_toPart.f, laws_toPaper.f, Option.bind_some, if_pos e, mid_next he (by omega), rd_T105, mid_get he]
    have := ih (a ++ [cvPart x]) t (by simp [ha]) (by simpa using ht)
    simp only [cvPart, List.append_assoc, List.singleton_append, List.map_cons] at this e2 ⊢
    rw [e2]
    exact this
theorem eqPartS (l : List S101) (h : l.length ≤ 9000000000000000000) : Ev (fun k => laws_eqPartS.f k l l) true := by
  simp only [laws_eqPartS.f, if_true]
  refine loop_list l (fun p s => Ev (fun k => laws_eqPartS.l0 k l l (p.length : Int)) true) ?_ ?_
  · refine Ev.step (fun k => by rw [laws_eqPartS.l0]) ?_
    simp only [if_neg (nlt_self l)]
    exact Ev.now _
  · intro p x s he ih
    refine Ev.step (fun k => by rw [laws_eqPartS.l0]) ?_
    simp only [if_pos (mid_lt he), if_pos (nat_nn p.length), laws_eqPart.f, laws_eqPaper.f, if_true, Option.bind_some, mid_next he (by omega)]
    exact ih
def inR (a lo hi : Int) : Bool := decide (lo ≤ a) && decide (a ≤ hi)
theorem inR_iff {a lo hi : Int} : inR a lo hi = true ↔ lo ≤ a ∧ a ≤ hi := by simp [inR]
theorem l01In (a lo hi : Int) : spec_l01In.f a lo hi = some (inR a lo hi) := by
  unfold spec_l01In.f inR
  split
  · rename_i h; rw [decide_eq_true (show lo ≤ a from h), Bool.true_and]
  · rename_i h; rw [decide_eq_false (show ¬ lo ≤ a from h), Bool.false_and]
theorem inRange (a lo hi : Int) : impl_inRange.f a lo hi = some (inR a lo hi) := by
  unfold impl_inRange.f inR
  split
  · rename_i h; rw [decide_eq_true (show lo ≤ a from h), Bool.true_and]
  · rename_i h; rw [decide_eq_false (show ¬ lo ≤ a from h), Bool.false_and]
def paperB (a b : Int) : Bool := inR a 30 500 && inR b 50 300
theorem spec_IsPaper (a b : Int) : spec_IsPaper.f a b = some (paperB a b) := by
  simp only [spec_IsPaper.f, l01In, Option.bind_some, paperB]
  cases inR a 30 500 <;> cases inR b 50 300 <;> rfl
theorem impl_IsPaper (a b : Int) : impl_IsPaper.f a b = some (paperB a b) := by
  simp only [impl_IsPaper.f, inRange, Option.bind_some, paperB]
  cases inR a 30 500 <;> cases inR b 50 300 <;> rfl
def okPaper (x : S94) : Bool := paperB x.f0 x.f1
def quo (a b : Int) : Int := wrap64 (Int.tdiv (wrap64 ((wrap64 (a + b)) - 1)) b)
theorem l01Ceil (a b : Int) (h : b ≠ 0) : spec_l01Ceil.f a b = some (quo a b) := by
  unfold spec_l01Ceil.f
  rw [if_neg h]
  rfl
theorem quotient (a b : Int) (h : b ≠ 0) : impl_quotient.f a b = some (quo a b) := by
  unfold impl_quotient.f
  rw [if_neg h]
  rfl
def okPart (x : S101) : Bool := inR x.f0 1 4096 && paperB x.f1.f0 x.f1.f1
theorem impl_PartsThickness_1_ok (x : S101) : impl_PartsThickness_1.f x.f0 x.f1.f0 x.f1.f1 = some (!(okPart x)) := by
  simp only [impl_PartsThickness_1.f, impl_isPages.f, impl_IsPaper, inRange, Option.bind_some, okPart]
  cases inR x.f0 1 4096 <;> cases paperB x.f1.f0 x.f1.f1 <;> rfl
def thick2 (a b : Int) : Int := wrap64 (Int.tdiv (wrap64 ((wrap64 (a * b)) + 50)) 100)
def blockB (a b : Int) : Int := wrap64 ((wrap64 (Int.tdiv (wrap64 (a + 1)) 2)) * b)
def partF (acc : Int) (x : S101) : Int := wrap64 (acc + blockB x.f0 (thick2 x.f1.f0 x.f1.f1))
theorem thick2_s (a b : Int) : spec_l18Thick.f a b = some (thick2 a b) := rfl
theorem thick2_i (a b : Int) : impl_thicknessOf.f a b = some (thick2 a b) := rfl
theorem block_s (a b : Int) : spec_l07Block.f a b = some (blockB a b) := rfl
theorem block_i (a b : Int) : impl_block.f a b = some (blockB a b) := rfl
theorem spec_PartsThickness (l : List S101) (h : l.length ≤ 1048576) : Ev (fun k => spec_PartsThickness.f k l) (if l.all okPart = true ∧ inR (l.length : Int) 1 10 = true then (quo (l.foldl partF 0) 100, 0) else (0, 1)) := by
  refine loop_list l (fun p s => ∀ acc, Ev (fun k => spec_PartsThickness.l0 k l acc (p.length : Int)) (if s.all okPart = true ∧ inR (l.length : Int) 1 10 = true then (quo (s.foldl partF acc) 100, 0) else (0, 1))) ?_ ?_ 0
  · intro acc
    refine Ev.step (fun k => by rw [spec_PartsThickness.l0]) ?_
    simp only [if_neg (nlt_self l), l01In, Option.bind_some, l01Ceil _ 100 (by decide)]
    cases hl : inR (l.length : Int) 1 10
    · simp only [Bool.false_eq_true, if_false, and_false]
      exact Ev.now _
    · simp only [if_true]
      exact ev_eq (Ev.now _) (by simp)
  · intro p x s he ih acc
    have hp := mid_lt he
    refine Ev.step (fun k => by rw [spec_PartsThickness.l0]) ?_
    simp only [if_pos hp, if_pos (nat_nn p.length), rd_T101, mid_get he, l01In, spec_IsPaper, Option.bind_some]
    have J1 : Ev (fun k => spec_PartsThickness.j1 k l acc (p.length : Int) true) (0, 1) := Ev.step (fun k => by rw [spec_PartsThickness.j1, if_pos rfl]) (Ev.now _)
    cases h1 : inR x.f0 1 4096
    · simp only [Bool.false_eq_true, if_false]
      exact ev_eq J1 (by rw [if_neg]; simp [okPart, h1])
    · simp only [if_true]
      cases h2 : paperB x.f1.f0 x.f1.f1
      · simp only [Bool.not_false]
        exact ev_eq J1 (by rw [if_neg]; simp [okPart, h2])
      · simp only [Bool.not_true]
        refine Ev.step (fun k => by rw [spec_PartsThickness.j1]) ?_
        simp only [Bool.false_eq_true, if_false, if_pos hp, if_pos (nat_nn p.length), rd_T101, mid_get he, thick2_s, block_s, Option.bind_some, mid_next he (by omega)]
        exact ev_eq (ih _) (by simp [okPart, h1, h2, partF])
theorem contains_impl_PartsThickness_1 (l : List S101) (h : l.length ≤ 1048576) : Ev (fun k => slices_ContainsFunc_at_impl_PartsThickness_1.f k l) (!(l.all okPart)) := by
  have H := loop_list l (fun p s => ∃ r, Ev (fun k => slices_IndexFunc_at_impl_PartsThickness_1.l0 k l (l.length : Int) (p.length : Int)) r ∧ decide (r ≥ 0) = !(s.all okPart)) ?_ ?_
  · obtain ⟨r, hr, e⟩ := H
    rw [← e]
    exact Ev.bind hr (Ev.now _)
  · refine ⟨-1, Ev.step (fun k => by rw [slices_IndexFunc_at_impl_PartsThickness_1.l0]) ?_, by simp⟩
    simp only [if_neg (nlt_self l)]
    exact Ev.now _
  · rintro p x s he ⟨r, ih, e⟩
    by_cases hx : okPart x = true
    · refine ⟨r, Ev.step (fun k => by rw [slices_IndexFunc_at_impl_PartsThickness_1.l0]) ?_, by rw [e]; simp [hx]⟩
      simp only [if_pos (mid_lt he), if_pos (nat_nn p.length), rd_T101, mid_get he, impl_PartsThickness_1_ok, hx, Option.bind_some, mid_next he (by omega)]
      exact ih
    · refine ⟨(p.length : Int), Ev.step (fun k => by rw [slices_IndexFunc_at_impl_PartsThickness_1.l0]) ?_, by simp [hx]⟩
      simp only [if_pos (mid_lt he), if_pos (nat_nn p.length), rd_T101, mid_get he, impl_PartsThickness_1_ok, Bool.eq_false_iff.2 hx, Option.bind_some]
      exact Ev.now _
theorem impl_PartsThickness (l : List S101) (h : l.length ≤ 1048576) : Ev (fun k => impl_PartsThickness.f k l) (if l.all okPart = true ∧ inR (l.length : Int) 1 10 = true then (quo (l.foldl partF 0) 100, 0) else (0, 1)) := by
  simp only [impl_PartsThickness.f, impl_length_Part.f, inRange, Option.bind_some]
  have J0 : Ev (fun k => impl_PartsThickness.j0 k l true) (0, 1) := Ev.step (fun k => by rw [impl_PartsThickness.j0, if_pos rfl]) (Ev.now _)
  cases hl : inR (l.length : Int) 1 10
  · simp only [Bool.false_eq_true, if_false, and_false]
    exact J0
  · simp only [if_true, and_true]
    refine Ev.bind (contains_impl_PartsThickness_1 l h) ?_
    cases ho : l.all okPart
    · simp only [Bool.not_false, Bool.false_eq_true, if_false]
      exact J0
    · simp only [Bool.not_true, if_true]
      refine Ev.step (fun k => by rw [impl_PartsThickness.j0]) ?_
      simp only [Bool.false_eq_true, if_false]
      refine loop_list l (fun p s => ∀ acc, Ev (fun k => impl_PartsThickness.l0 k acc l (l.length : Int) (p.length : Int)) (quo (s.foldl partF acc) 100, 0)) ?_ ?_ 0
      · intro acc
        refine Ev.step (fun k => by rw [impl_PartsThickness.l0]) ?_
        simp only [if_neg (nlt_self l), quotient _ 100 (by decide), Option.bind_some]
        exact Ev.now _
      · intro p x s he ih acc
        refine Ev.step (fun k => by rw [impl_PartsThickness.l0]) ?_
        simp only [if_pos (mid_lt he), if_pos (nat_nn p.length), rd_T101, mid_get he, thick2_i, block_i, Option.bind_some, mid_next he (by omega)]
        exact ih _
theorem both_PartsThickness (l : List S101) (h : l.length ≤ 1048576) : ∃ r, Ev (fun k => spec_PartsThickness.f k l) r ∧ Ev (fun k => impl_PartsThickness.f k l) r := ⟨_, spec_PartsThickness l h, impl_PartsThickness l h⟩
theorem FnExactPartsThickness : laws_FnExactPartsThickness.Pure := by
  intro l hl hw
  refine Ev.rounds (g := fun k => laws_FnExactPartsThickness.f k l) ?_
  simp only [laws_FnExactPartsThickness.f, szPart l 1048576 (by omega) (by omega) (by omega), Option.bind_some]
  by_cases hs : (1048576 : Int) - l.length < 0
  · simp only [if_pos hs]
    exact Ev.now _
  · simp only [if_neg hs]
    have h0 : l.length ≤ 1048576 := by omega
    have hm : (l.map cvPart).length ≤ 1048576 := by simpa using h0
    obtain ⟨r, h1, h2⟩ := both_PartsThickness (l.map cvPart) hm
    refine Ev.bind (toPartS l h0) ?_
    refine Ev.bind h1 ?_
    refine Ev.bind (toPartS l h0) ?_
    refine Ev.bind h2 ?_
    simp only [if_true, bne_self_eq_false]
    refine Ev.step (fun k => by rw [laws_FnExactPartsThickness.j0]) ?_
    simp only [Bool.false_eq_true, if_false]
    refine Ev.bind (toPartS l h0) ?_
    refine Ev.bind (eqPartS _ (by omega)) ?_
    simp only [if_true]
    exact Ev.now _

end Go.Proofs.Ytmdjdocagccljaa.Pure
