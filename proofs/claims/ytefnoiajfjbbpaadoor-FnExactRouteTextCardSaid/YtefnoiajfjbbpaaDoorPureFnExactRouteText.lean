/- The pure statement of law FnExactRouteText: what the printed functions compute answers true at every input. No condition. -/
import Derived.Test.YtefnoiajfjbbpaaDoorPFnExactRouteTextx4
set_option linter.unusedVariables false
set_option linter.unusedSimpArgs false
namespace Go.Proofs.YtefnoiajfjbbpaaDoor.Pure
open Go.RowKit Go.Proofs.YtefnoiajfjbbpaaDoor.PFnExactRouteText Go.Proofs.YtefnoiajfjbbpaaDoorW.PrintWords Go.Proofs.YtefnoiajfjbbpaaDoorW.PrintLast Go.Proofs.YtefnoiajfjbbpaaDoorW.PrintMore


/-! #### Numbers and rounds -/
theorem w64 {x : Int} (h1 : -9223372036854775808 ≤ x) (h2 : x ≤ 9223372036854775807) : wrap64 x = x := by
  unfold wrap64
  omega
theorem wf64 {x : Int} (h : (Lit.int .i64 x).wf = true) : -9223372036854775808 ≤ x ∧ x ≤ 9223372036854775807 := by
  simp only [Lit.wf, IntKind.min, IntKind.max, IntKind.signed, IntKind.bits, Bool.and_eq_true, decide_eq_true_eq, if_true] at h
  omega
theorem ev_of {α : Type} {g : Nat → Option α} {r : α} (h : ∀ k, g k = some r) : Ev g r := ⟨0, fun k _ => h k⟩
theorem ev_eq {α : Type} {g : Nat → Option α} {r r' : α} (h : Ev g r) (e : r = r') : Ev g r' := e ▸ h
/-- A loop over a list: what lies behind, what lies ahead. -/
theorem loop_list {α : Type} (l : List α) (Q : List α → List α → Prop) (h0 : Q l []) (hs : ∀ p x s, l = p ++ x :: s → Q (p ++ [x]) s → Q p (x :: s)) : Q [] l := by
  have h : ∀ s p, l = p ++ s → Q p s := by
    intro s
    induction s with
    | nil => intro p hp; rw [List.append_nil] at hp; rw [← hp]; exact h0
    | cons x s ih => intro p hp; exact hs p x s hp (ih (p ++ [x]) (by simp [hp]))
  exact h l [] rfl
theorem mid_lt {α : Type} {l p s : List α} {x : α} (h : l = p ++ x :: s) : (p.length : Int) < (l.length : Int) := by
  rw [h, List.length_append, List.length_cons]; omega
theorem mid_next {α : Type} {l p s : List α} {x : α} (h : l = p ++ x :: s) (hl : l.length ≤ 9223372036854775807) : wrap64 ((p.length : Int) + 1) = ((p ++ [x]).length : Int) := by
  have := mid_lt h
  rw [w64 (by omega) (by omega), List.length_append]; simp
theorem mid_get {α : Type} {l p s : List α} {x : α} (h : l = p ++ x :: s) (z : α) : l.getD (p.length : Int).toNat z = x := by
  rw [h]; simp
theorem get_mid {α : Type} (p s : List α) (x z : α) : (p ++ x :: s).getD (p.length : Int).toNat z = x := by simp
theorem nat_nn (n : Nat) : (0 : Int) ≤ (n : Int) := by omega
theorem nlt_self {α : Type} (l : List α) : ¬ ((l.length : Int) < (l.length : Int)) := by omega
theorem set_mid {α : Type} (p s : List α) (x y : α) : (p ++ x :: s).set ((p.length : Int).toNat) y = p ++ y :: s := by
  rw [Int.toNat_natCast, List.set_append_right _ _ (Nat.le_refl _)]; simp
theorem nil_or_snoc {α : Type} (p : List α) : p = [] ∨ ∃ q y, p = q ++ [y] := by
  rcases List.eq_nil_or_concat p with h | ⟨q, y, h⟩
  · exact .inl h
  · exact .inr ⟨q, y, by rw [h, List.concat_eq_append]⟩
theorem loop_all {α : Type} (l : List α) (Q : List α → List α → Prop) (h0 : Q l []) (hs : ∀ p x s, l = p ++ x :: s → Q (p ++ [x]) s → Q p (x :: s)) : ∀ s p, l = p ++ s → Q p s := by
  intro s
  induction s with
  | nil => intro p hp; rw [List.append_nil] at hp; rw [← hp]; exact h0
  | cons x s ih => intro p hp; exact hs p x s hp (ih (p ++ [x]) (by simp [hp]))
theorem szStep (l : List S35) (a : Int) (ha : 0 ≤ a) (hb : a ≤ 1048576) (h : l.length ≤ 9000000000000000000) : laws_szStepS.f l a = some (if a - l.length < 0 then (-1 : Int) else a - l.length) := by
  unfold laws_szStepS.f
  rw [w64 (by omega) (by omega)]
  split <;> rfl
def cvStep (x : S35) : S32 := ⟨x.f0, x.f1, x.f2⟩
theorem toStepS (l : List S35) (h : l.length ≤ 1048576) : Ev (fun k => laws_toStepS.f k l) (l.map cvStep) := by
  have H := loop_list l (fun p s => ∀ (a t : List S32), a.length = p.length → t.length = s.length → Ev (fun k => laws_toStepS.l0 k l (a ++ t) (p.length : Int)) (a ++ s.map cvStep)) ?_ ?_
  · have := H [] (List.replicate l.length z32) rfl (by simp)
    simp only [laws_toStepS.f, Int.toNat_natCast, if_pos (nat_nn l.length)]
    rw [show (fun k => if l.length ≤ _ then _ else _) = (fun k => laws_toStepS.l0 k l (List.replicate l.length z32) 0) from funext fun k => if_pos (by omega)]
    simpa using this
  · intro a t ha ht
    refine Ev.step (fun k => by rw [laws_toStepS.l0]) ?_
    simp only [if_neg (nlt_self l)]
    have : t = [] := List.eq_nil_of_length_eq_zero (by simpa using ht)
    subst this
    exact Ev.now _
  · intro p x s he ih a t ha ht
    obtain ⟨y, t, rfl⟩ : ∃ y t', t = y :: t' := by cases t with | nil => simp at ht | cons y t => exact ⟨y, t, rfl⟩
    refine Ev.step (fun k => by rw [laws_toStepS.l0]) ?_
    have e : ((p.length : Int) < ((a ++ y :: t).length : Int)) := by simp; omega
    have e2 := set_mid a t y (cvStep x)
    rw [ha] at e2
    simp only [if_pos (mid_lt he), if_pos (nat_nn p.length), laws_toStep.f, Option.bind_some, if_pos e, mid_next he (by omega), rd_T35, mid_get he]
    have := ih (a ++ [cvStep x]) t (by simp [ha]) (by simpa using ht)
    simp only [cvStep, List.append_assoc, List.singleton_append, List.map_cons] at this e2 ⊢
    rw [e2]
    exact this
theorem eqStepS (l : List S32) (h : l.length ≤ 9000000000000000000) : Ev (fun k => laws_eqStepS.f k l l) true := by
  simp only [laws_eqStepS.f, if_true]
  refine loop_list l (fun p s => Ev (fun k => laws_eqStepS.l0 k l l (p.length : Int)) true) ?_ ?_
  · refine Ev.step (fun k => by rw [laws_eqStepS.l0]) ?_
    simp only [if_neg (nlt_self l)]
    exact Ev.now _
  · intro p x s he ih
    refine Ev.step (fun k => by rw [laws_eqStepS.l0]) ?_
    simp only [if_pos (mid_lt he), if_pos (nat_nn p.length), laws_eqStep.f, if_true, Option.bind_some, mid_next he (by omega)]
    exact ih
/-- Bytes as a string. -/
def bA (l : List UInt8) : ByteArray := ⟨l.toArray⟩
theorem bA_size (l : List UInt8) : (bA l).size = l.length := by simp [bA, ByteArray.size]
theorem bA_app (a b : List UInt8) : bA a ++ bA b = bA (a ++ b) := by
  apply ByteArray.ext
  simp [bA]
theorem bA_list (l : List UInt8) : (bA l).data.toList = l := by simp [bA]
theorem bA_dig (u : Nat) (h : u < 10) : strOfNums ([(wrap64 (48 + (u : Int))) % 256] : List Int) = bA [UInt8.ofNat (48 + u)] := by
  rw [w64 (by omega) (by omega)]
  have e : ((48 + (u : Int)) % 256).toNat = 48 + u := by omega
  simp only [strOfNums, bA, List.map_cons, List.map_nil, e]
theorem dec_len : ∀ (n u : Nat), u ≤ n → (Lib.decDigits u).length ≤ u + 1 := by
  intro n
  induction n with
  | zero => intro u h; rw [show u = 0 by omega, Lib.decDigits, dif_pos (by decide)]; simp
  | succ n ih =>
    intro u h
    rw [Lib.decDigits]
    by_cases h1 : u < 10
    · rw [dif_pos h1]; simp
    · rw [dif_neg h1]
      have := ih (u / 10) (by omega)
      simp only [List.length_append, List.length_singleton]
      omega
theorem spec_dec : ∀ (n u : Nat), u ≤ n → u ≤ 1000000000000000000 → Ev (fun k => spec_l01Dec.f k (u : Int)) (bA (Lib.decDigits u)) := by
  intro n
  induction n with
  | zero =>
    intro u h _
    rw [show u = 0 by omega]
    refine Ev.step (fun k => by rw [spec_l01Dec.f]) ?_
    simp only [if_pos (show ((0 : Nat) : Int) < 10 by decide)]
    refine ev_eq (Ev.now _) ?_
    rw [bA_dig 0 (by decide), Lib.decDigits, dif_pos (by decide)]
  | succ n ih =>
    intro u h hb
    refine Ev.step (fun k => by rw [spec_l01Dec.f]) ?_
    by_cases h1 : u < 10
    · simp only [if_pos (show (u : Int) < 10 by omega)]
      refine ev_eq (Ev.now _) ?_
      rw [bA_dig u h1, Lib.decDigits, dif_pos h1]
    · have e1 : wrap64 (Int.tdiv (u : Int) 10) = ((u / 10 : Nat) : Int) := by
        rw [show Int.tdiv (u : Int) 10 = ((u / 10 : Nat) : Int) from (Int.ofNat_tdiv u 10).symm]
        exact w64 (by omega) (by omega)
      have e2 : Int.tmod (u : Int) 10 = ((u % 10 : Nat) : Int) := (Int.ofNat_tmod u 10).symm
      have hl := dec_len (u / 10) (u / 10) (Nat.le_refl _)
      simp only [if_neg (show ¬ (u : Int) < 10 by omega), e1, e2, Option.bind_some, bA_dig (u % 10) (by omega)]
      refine Ev.bind (ih (u / 10) (by omega) (by omega)) ?_
      simp only [bA_size, List.length_singleton, if_pos (show (Lib.decDigits (u / 10)).length + 1 ≤ 9223372036854775807 by omega)]
      refine ev_eq (Ev.now _) ?_
      rw [bA_app]
      conv => rhs; rw [Lib.decDigits, dif_neg h1]
/-- A number that is none below zero, by what the program calls. -/
theorem impl_dec (u : Nat) (h : u ≤ 1000000000000000000) : impl_decimal.f (u : Int) = some (bA (Lib.decDigits u)) := by
  have e : Lib.itoa (u : Int) = Lib.decDigits u := by
    unfold Lib.itoa
    rw [if_neg (by omega), Int.toNat_natCast]
  simp only [impl_decimal.f, strconv_FormatInt_23.f, if_true, if_pos (show (-9223372036854775808 : Int) ≤ (u : Int) by omega), if_pos (show (u : Int) ≤ 9223372036854775807 by omega), e, Option.bind_some]
  rfl
theorem spec_number (u : Nat) (h : u ≤ 1000000000000000000) : Ev (fun k => spec_l01Number.f k (u : Int)) (bA (Lib.decDigits u)) := by
  simp only [spec_l01Number.f, if_neg (show ¬ (u : Int) < 0 by omega)]
  exact Ev.bind (spec_dec u u (Nat.le_refl _) h) (Ev.now _)
def inR (a lo hi : Int) : Bool := decide (lo ≤ a) && decide (a ≤ hi)
theorem inR_iff {a lo hi : Int} : inR a lo hi = true ↔ lo ≤ a ∧ a ≤ hi := by simp [inR]
theorem l01In (a lo hi : Int) : spec_l01In.f a lo hi = some (inR a lo hi) := by
  unfold spec_l01In.f inR
  split
  · rename_i h; rw [decide_eq_true (show lo ≤ a from h), Bool.true_and]
  · rename_i h; rw [decide_eq_false (show ¬ lo ≤ a from h), Bool.false_and]
theorem inRange (a lo hi : Int) : impl_inRange.f a lo hi = some (inR a lo hi) := by
  unfold impl_inRange.f inR
  split
  · rename_i h; rw [decide_eq_true (show lo ≤ a from h), Bool.true_and]
  · rename_i h; rw [decide_eq_false (show ¬ lo ≤ a from h), Bool.false_and]
def stepB (a b c : Int) : Bool := inR a 0 10000 && (inR b 1 100000 && inR c 0 500)
theorem spec_IsStep (a b c : Int) : spec_IsStep.f a b c = some (stepB a b c) := by
  simp only [spec_IsStep.f, l01In, Option.bind_some, stepB]
  cases inR a 0 10000 <;> cases inR b 1 100000 <;> cases inR c 0 500 <;> rfl
theorem impl_IsStep (a b c : Int) : impl_IsStep.f a b c = some (stepB a b c) := by
  simp only [impl_IsStep.f, inRange, Option.bind_some, stepB]
  cases inR a 0 10000 <;> cases inR b 1 100000 <;> cases inR c 0 500 <;> rfl
def quo (a b : Int) : Int := wrap64 (Int.tdiv (wrap64 ((wrap64 (a + b)) - 1)) b)
def minB (a b n : Int) : Int := wrap64 (a + quo (wrap64 (60 * n)) b)
theorem stepB_pos {a b c : Int} (h : stepB a b c = true) : b ≠ 0 := by
  simp only [stepB, Bool.and_eq_true, inR_iff] at h
  omega
def codeOf (b : Bool) (n : Int) : Int := if b = true then (if inR n 0 1000000 = true then 0 else 2) else 1
theorem codeOf_zero {b : Bool} {n : Int} (h : codeOf b n = 0) : b = true ∧ 0 ≤ n ∧ n ≤ 1000000 := by
  unfold codeOf at h
  cases b <;> cases h1 : inR n 0 1000000 <;> simp [h1] at h
  exact ⟨rfl, inR_iff.1 h1⟩
def okStep (x : S32) : Bool := stepB x.f0 x.f1 x.f2
def routeB (l : List S32) : Bool := l.all okStep && (decide (1 ≤ l.length) && decide (l.length ≤ 10))
theorem spec_IsRoute (l : List S32) (h : l.length ≤ 1048576) : Ev (fun k => spec_IsRoute.f k l) (routeB l) := by
  refine loop_list l (fun p s => Ev (fun k => spec_IsRoute.l0 k l (p.length : Int)) (s.all okStep && (decide (1 ≤ l.length) && decide (l.length ≤ 10)))) ?_ ?_
  · refine Ev.step (fun k => by rw [spec_IsRoute.l0]) ?_
    simp only [if_neg (nlt_self l), List.all_nil, Bool.true_and]
    by_cases h1 : (l.length : Int) ≥ 1
    · simp only [if_pos h1]
      exact ev_eq (Ev.now _) (by rw [decide_eq_true (show 1 ≤ l.length by omega), Bool.true_and]; exact decide_eq_decide.2 (by omega))
    · simp only [if_neg h1]
      exact ev_eq (Ev.now _) (by rw [decide_eq_false (show ¬ 1 ≤ l.length by omega), Bool.false_and])
  · intro p x s he ih
    refine Ev.step (fun k => by rw [spec_IsRoute.l0]) ?_
    simp only [if_pos (mid_lt he), if_pos (nat_nn p.length), mid_next he (by omega), rd_T32, mid_get he, spec_IsStep, Option.bind_some, List.all_cons]
    cases h0 : stepB x.f0 x.f1 x.f2 <;> simp [okStep, h0] <;> first | exact Ev.now _ | simpa [mid_next he (by omega)] using ih
theorem impl_IsRoute_1_ok (x : S32) : impl_IsRoute_1.f x.f0 x.f1 x.f2 = some (!(okStep x)) := by
  simp only [impl_IsRoute_1.f, impl_IsStep, Option.bind_some, okStep]
theorem contains_impl_IsRoute_1 (l : List S32) (h : l.length ≤ 1048576) : Ev (fun k => slices_ContainsFunc_at_impl_IsRoute_1.f k l) (!(l.all okStep)) := by
  have H := loop_list l (fun p s => ∃ r, Ev (fun k => slices_IndexFunc_at_impl_IsRoute_1.l0 k l (l.length : Int) (p.length : Int)) r ∧ decide (r ≥ 0) = !(s.all okStep)) ?_ ?_
  · obtain ⟨r, hr, e⟩ := H
    rw [← e]
    exact Ev.bind hr (Ev.now _)
  · refine ⟨-1, Ev.step (fun k => by rw [slices_IndexFunc_at_impl_IsRoute_1.l0]) ?_, by simp⟩
    simp only [if_neg (nlt_self l)]
    exact Ev.now _
  · rintro p x s he ⟨r, ih, e⟩
    by_cases hx : okStep x = true
    · refine ⟨r, Ev.step (fun k => by rw [slices_IndexFunc_at_impl_IsRoute_1.l0]) ?_, by rw [e]; simp [hx]⟩
      simp only [if_pos (mid_lt he), if_pos (nat_nn p.length), rd_T32, mid_get he, impl_IsRoute_1_ok, hx, Option.bind_some, mid_next he (by omega)]
      exact ih
    · refine ⟨(p.length : Int), Ev.step (fun k => by rw [slices_IndexFunc_at_impl_IsRoute_1.l0]) ?_, by simp [hx]⟩
      simp only [if_pos (mid_lt he), if_pos (nat_nn p.length), rd_T32, mid_get he, impl_IsRoute_1_ok, Bool.eq_false_iff.2 hx, Option.bind_some]
      exact Ev.now _
theorem impl_IsRoute (l : List S32) (h : l.length ≤ 1048576) : Ev (fun k => impl_IsRoute.f k l) (routeB l) := by
  simp only [impl_IsRoute.f, impl_length_Step.f, inRange, Option.bind_some]
  cases hl : inR (l.length : Int) 1 10
  · simp only [Bool.false_eq_true, if_false]
    have e : (decide (1 ≤ l.length) && decide (l.length ≤ 10)) = false := by
      rw [Bool.eq_false_iff] at hl ⊢
      intro h; apply hl; rw [inR_iff]; simp at h; omega
    exact ev_eq (Ev.now _) (by rw [routeB, e, Bool.and_false])
  · simp only [if_true]
    rw [inR_iff] at hl
    exact ev_eq (Ev.bind (contains_impl_IsRoute_1 l h) (Ev.now _)) (by simp [routeB, show l.length ≤ 10 by omega, show 1 ≤ l.length by omega])
theorem okStep_of {l : List S32} {n : Int} (h : codeOf (routeB l) n = 0) {x : S32} (hx : x ∈ l) : stepB x.f0 x.f1 x.f2 = true := by
  have := (codeOf_zero h).1
  simp only [routeB, Bool.and_eq_true, List.all_eq_true] at this
  exact this.1 x hx
theorem route_len {l : List S32} {n : Int} (h : codeOf (routeB l) n = 0) : 1 ≤ l.length ∧ l.length ≤ 10 := by
  have := (codeOf_zero h).1
  simp only [routeB, Bool.and_eq_true, decide_eq_true_eq] at this
  exact this.2

def stepL (x : S32) : List UInt8 := Lib.decDigits x.f0.toNat ++ [44] ++ Lib.decDigits x.f1.toNat ++ [44] ++ Lib.decDigits x.f2.toNat
theorem step_range {x : S32} (h : okStep x = true) : (0 ≤ x.f0 ∧ x.f0 ≤ 100000) ∧ (0 ≤ x.f1 ∧ x.f1 ≤ 100000) ∧ (0 ≤ x.f2 ∧ x.f2 ≤ 100000) := by
  simp only [okStep, stepB, Bool.and_eq_true, inR_iff] at h
  omega
theorem stepL_len {x : S32} (h : okStep x = true) : (stepL x).length ≤ 300005 := by
  obtain ⟨h0, h1, h2⟩ := step_range h
  have d0 := dec_len x.f0.toNat x.f0.toNat (Nat.le_refl _)
  have d1 := dec_len x.f1.toNat x.f1.toNat (Nat.le_refl _)
  have d2 := dec_len x.f2.toNat x.f2.toNat (Nat.le_refl _)
  simp only [stepL, List.length_append, List.length_singleton]
  omega
theorem spec_step {x : S32} (h : okStep x = true) : Ev (fun k => spec_l01Join.f k ([x.f0, x.f1, x.f2] : List Int) (⟨#[44]⟩ : ByteArray)) (bA (stepL x)) := by
  obtain ⟨h0, h1, h2⟩ := step_range h
  have d0 := dec_len x.f0.toNat x.f0.toNat (Nat.le_refl _)
  have d1 := dec_len x.f1.toNat x.f1.toNat (Nat.le_refl _)
  have d2 := dec_len x.f2.toNat x.f2.toNat (Nat.le_refl _)
  have n0 := spec_number x.f0.toNat (by omega)
  have n1 := spec_number x.f1.toNat (by omega)
  have n2 := spec_number x.f2.toNat (by omega)
  rw [show ((x.f0.toNat : Nat) : Int) = x.f0 by omega] at n0
  rw [show ((x.f1.toNat : Nat) : Int) = x.f1 by omega] at n1
  rw [show ((x.f2.toNat : Nat) : Int) = x.f2 by omega] at n2
  have c : (⟨#[44]⟩ : ByteArray) = bA [44] := rfl
  have z : (⟨#[]⟩ : ByteArray) = bA [] := rfl
  have l3 : (([x.f0, x.f1, x.f2] : List Int).length : Int) = 3 := rfl
  have r0 : rd [x.f0, x.f1, x.f2] 0 = x.f0 := rfl
  have r1 : rd [x.f0, x.f1, x.f2] 1 = x.f1 := rfl
  have r2 : rd [x.f0, x.f1, x.f2] 2 = x.f2 := rfl
  have w1 : wrap64 ((0 : Int) + 1) = 1 := w64 (by omega) (by omega)
  have w2 : wrap64 ((1 : Int) + 1) = 2 := w64 (by omega) (by omega)
  have w3 : wrap64 ((2 : Int) + 1) = 3 := w64 (by omega) (by omega)
  simp only [spec_l01Join.f, c, z]
  refine Ev.step (fun k => by rw [spec_l01Join.l0]) ?_
  simp only [l3, if_pos (show (0 : Int) < 3 by decide), if_neg (show ¬ (0 : Int) > 0 by decide), if_pos (show (0 : Int) ≤ 0 by decide), r0]
  refine Ev.bind n0 ?_
  simp only [bA_size, bA_app, List.nil_append, List.length_nil, w1, if_pos (show 0 + (Lib.decDigits x.f0.toNat).length ≤ 9223372036854775807 by omega)]
  refine Ev.step (fun k => by rw [spec_l01Join.l0]) ?_
  simp only [l3, if_pos (show (1 : Int) < 3 by decide), if_pos (show (1 : Int) > 0 by decide), if_pos (show (0 : Int) ≤ 1 by decide), r1, bA_size, bA_app, List.length_singleton, if_pos (show (Lib.decDigits x.f0.toNat).length + 1 ≤ 9223372036854775807 by omega)]
  refine Ev.bind n1 ?_
  simp only [bA_size, bA_app, w2, List.length_append, List.length_singleton, if_pos (show (Lib.decDigits x.f0.toNat).length + 1 + (Lib.decDigits x.f1.toNat).length ≤ 9223372036854775807 by omega)]
  refine Ev.step (fun k => by rw [spec_l01Join.l0]) ?_
  simp only [l3, if_pos (show (2 : Int) < 3 by decide), if_pos (show (2 : Int) > 0 by decide), if_pos (show (0 : Int) ≤ 2 by decide), r2, bA_size, bA_app, List.length_append, List.length_singleton, if_pos (show (Lib.decDigits x.f0.toNat).length + 1 + (Lib.decDigits x.f1.toNat).length + 1 ≤ 9223372036854775807 by omega)]
  refine Ev.bind n2 ?_
  simp only [bA_size, bA_app, w3, List.length_append, List.length_singleton, if_pos (show (Lib.decDigits x.f0.toNat).length + 1 + (Lib.decDigits x.f1.toNat).length + 1 + (Lib.decDigits x.f2.toNat).length ≤ 9223372036854775807 by omega)]
  refine Ev.step (fun k => by rw [spec_l01Join.l0]) ?_
  simp only [l3, if_neg (show ¬ (3 : Int) < 3 by decide)]
  exact Ev.now _
theorem join_snoc (p : List (List UInt8)) (x : List UInt8) (hp : p ≠ []) : Lib.join (p ++ [x]) [32] = Lib.join p [32] ++ [32] ++ x := by
  cases p with
  | nil => exact absurd rfl hp
  | cons y r => simp [Lib.join_cons, Lib.joinTail]
theorem join_len (N : Nat) : ∀ p : List (List UInt8), (∀ x ∈ p, x.length ≤ N) → (Lib.join p [32]).length ≤ (N + 1) * p.length := by
  intro p h
  cases p with
  | nil => simp [Lib.join_nil]
  | cons y r =>
    have H : ∀ r : List (List UInt8), (∀ x ∈ r, x.length ≤ N) → (Lib.joinTail [32] r).length ≤ (N + 1) * r.length := by
      intro r
      induction r with
      | nil => intro _; simp [Lib.joinTail]
      | cons z r ih =>
        intro h
        have h1 := ih (fun x hx => h x (by simp [hx]))
        have h2 := h z (by simp)
        have e : Lib.joinTail [32] (z :: r) = [32] ++ z ++ Lib.joinTail [32] r := by simp [Lib.joinTail]
        rw [e]
        simp only [List.length_append, List.length_cons, List.length_nil, Nat.mul_add, Nat.mul_one]
        omega
    have h1 := H r (fun x hx => h x (by simp [hx]))
    have h2 := h y (by simp)
    rw [Lib.join_cons]
    simp only [List.length_append, List.length_cons, Nat.mul_add, Nat.mul_one]
    omega
def routeL (l : List S32) : List UInt8 := Lib.join (l.map stepL) [32]
theorem routeL_len {l : List S32} (h : ∀ x ∈ l, okStep x = true) : (routeL l).length ≤ 300006 * l.length := by
  have := join_len 300005 (l.map stepL) (fun y hy => by
    obtain ⟨x, hx, rfl⟩ := List.mem_map.1 hy
    exact stepL_len (h x hx))
  simpa [routeL] using this
theorem spec_routetext {l : List S32} (h : l.length ≤ 1048576) (hr : routeB l = true) : Ev (fun k => spec_RouteText.f k l) (bA (routeL l)) := by
  have hok : ∀ x ∈ l, okStep x = true := by
    simp only [routeB, Bool.and_eq_true, List.all_eq_true] at hr
    exact hr.1
  have hl10 : l.length ≤ 10 := by
    simp only [routeB, Bool.and_eq_true, decide_eq_true_eq] at hr
    exact hr.2.2
  simp only [spec_RouteText.f]
  refine Ev.bind (ev_eq (spec_IsRoute l h) hr) ?_
  have c : (⟨#[32]⟩ : ByteArray) = bA [32] := rfl
  simp only [if_true]
  refine loop_list l (fun p s => Ev (fun k => spec_RouteText.l0 k l (bA (routeL p)) (p.length : Int)) (bA (routeL l))) ?_ ?_
  · refine Ev.step (fun k => by rw [spec_RouteText.l0]) ?_
    simp only [if_neg (nlt_self l)]
    exact Ev.now _
  · intro p x s he ih
    have hx : rd_T32 l (p.length : Int) = x := by unfold rd_T32; exact mid_get he _
    have hp := mid_lt he
    have hok' : ∀ y ∈ p, okStep y = true := fun y hy => hok y (by rw [he]; simp [hy])
    have hxo : okStep x = true := hok x (by rw [he]; simp)
    have hb := routeL_len hok'
    have hb2 := stepL_len hxo
    refine Ev.step (fun k => by rw [spec_RouteText.l0]) ?_
    by_cases h0 : p.length = 0
    · have : p = [] := List.eq_nil_of_length_eq_zero h0
      subst this
      have e : routeL ([] ++ [x]) = stepL x := by simp [routeL, Lib.join_one]
      rw [e] at ih
      simp only [if_pos hp, if_neg (show ¬ ((([] : List S32).length : Nat) : Int) > 0 by simp), if_pos (nat_nn ([] : List S32).length), hx]
      refine Ev.bind (spec_step hxo) ?_
      simp only [bA_size, bA_app, show routeL [] = [] from rfl, List.length_nil, List.nil_append, if_pos (show 0 + (stepL x).length ≤ 9223372036854775807 by omega)]
      simpa [show wrap64 (1 : Int) = 1 from w64 (by omega) (by omega)] using ih
    · have e : routeL (p ++ [x]) = routeL p ++ [32] ++ stepL x := by
        unfold routeL
        rw [List.map_append]
        exact join_snoc _ _ (by intro hn; exact h0 (by simpa using congrArg List.length hn))
      rw [e, show (p ++ [x]).length = p.length + 1 by simp] at ih
      simp only [if_pos hp, if_pos (show (p.length : Int) > 0 by omega), if_pos (nat_nn p.length), hx, c, bA_size, bA_app, List.length_append, List.length_singleton, if_pos (show (routeL p).length + 1 ≤ 9223372036854775807 by omega), mid_next he (by omega)]
      refine Ev.bind (spec_step hxo) ?_
      simp only [bA_size, bA_app, List.length_append, List.length_singleton, if_pos (show (routeL p).length + 1 + (stepL x).length ≤ 9223372036854775807 by omega)]
      exact ih
theorem impl_routetext {l : List S32} (h : l.length ≤ 1048576) (hr : routeB l = true) : Ev (fun k => impl_RouteText.f k l) (bA (routeL l)) := by
  have hok : ∀ x ∈ l, okStep x = true := by
    simp only [routeB, Bool.and_eq_true, List.all_eq_true] at hr
    exact hr.1
  have hl10 : l.length ≤ 10 := by
    simp only [routeB, Bool.and_eq_true, decide_eq_true_eq] at hr
    exact hr.2.2
  simp only [impl_RouteText.f]
  refine Ev.bind (ev_eq (impl_IsRoute l h) hr) ?_
  have c : (⟨#[44]⟩ : ByteArray) = bA [44] := rfl
  have c2 : (⟨#[32]⟩ : ByteArray) = bA [32] := rfl
  simp only [if_true]
  refine loop_list l (fun p s => Ev (fun k => impl_RouteText.l0 k (p.map fun x => bA (stepL x)) l (l.length : Int) (p.length : Int)) (bA (routeL l))) ?_ ?_
  · refine Ev.step (fun k => by rw [impl_RouteText.l0]) ?_
    have e : (l.map fun x => bA (stepL x)).map (fun x => x.data.toList) = l.map stepL := by
      rw [List.map_map]
      apply List.map_congr_left
      intro x _
      exact bA_list _
    have hb := routeL_len hok
    have e2 : (⟨(Lib.join (l.map stepL) [32]).toArray⟩ : ByteArray) = bA (routeL l) := rfl
    have hb' : (Lib.join (l.map stepL) [32]).length ≤ 140737488355328 := by show (routeL l).length ≤ _; omega
    simp only [if_neg (nlt_self l), strings_Join.f, c2, bA_list, e, List.length_map, if_pos (show l.length ≤ 140737488355328 by omega), if_pos hb', Option.bind_some, e2]
    exact Ev.now _
  · intro p x s he ih
    have hx : rd_T32 l (p.length : Int) = x := by unfold rd_T32; exact mid_get he _
    have hp := mid_lt he
    have hxo : okStep x = true := hok x (by rw [he]; simp)
    obtain ⟨h0, h1, h2⟩ := step_range hxo
    have d0 := dec_len x.f0.toNat x.f0.toNat (Nat.le_refl _)
    have d1 := dec_len x.f1.toNat x.f1.toNat (Nat.le_refl _)
    have d2 := dec_len x.f2.toNat x.f2.toNat (Nat.le_refl _)
    have n0 := impl_dec x.f0.toNat (by omega)
    have n1 := impl_dec x.f1.toNat (by omega)
    have n2 := impl_dec x.f2.toNat (by omega)
    rw [show ((x.f0.toNat : Nat) : Int) = x.f0 by omega] at n0
    rw [show ((x.f1.toNat : Nat) : Int) = x.f1 by omega] at n1
    rw [show ((x.f2.toNat : Nat) : Int) = x.f2 by omega] at n2
    refine Ev.step (fun k => by rw [impl_RouteText.l0]) ?_
    simp only [if_pos hp, if_pos (nat_nn p.length), hx, n0, n1, n2, Option.bind_some, c, bA_size, bA_app, List.length_append, List.length_singleton, List.length_map,
      if_pos (show (Lib.decDigits x.f0.toNat).length + 1 ≤ 9223372036854775807 by omega), if_pos (show (Lib.decDigits x.f0.toNat).length + 1 + (Lib.decDigits x.f1.toNat).length ≤ 9223372036854775807 by omega),
      if_pos (show (Lib.decDigits x.f0.toNat).length + 1 + (Lib.decDigits x.f1.toNat).length + 1 ≤ 9223372036854775807 by omega), if_pos (show (Lib.decDigits x.f0.toNat).length + 1 + (Lib.decDigits x.f1.toNat).length + 1 + (Lib.decDigits x.f2.toNat).length ≤ 9223372036854775807 by omega),
      if_pos (show p.length < 8796093022208 by omega), mid_next he (by omega)]
    simpa [stepL] using ih
theorem both_RouteText (l : List S32) (h : l.length ≤ 1048576) : Ev (fun k => spec_RouteText.f k l) (if routeB l = true then bA (routeL l) else bA []) ∧ Ev (fun k => impl_RouteText.f k l) (if routeB l = true then bA (routeL l) else bA []) := by
  cases hr : routeB l
  · simp only [Bool.false_eq_true, if_false, spec_RouteText.f, impl_RouteText.f]
    exact ⟨Ev.bind (ev_eq (spec_IsRoute l h) hr) (by simp only [Bool.false_eq_true, if_false]; exact Ev.now _), Ev.bind (ev_eq (impl_IsRoute l h) hr) (by simp only [Bool.false_eq_true, if_false]; exact Ev.now _)⟩
  · simp only [if_true]
    exact ⟨spec_routetext h hr, impl_routetext h hr⟩
theorem FnExactRouteText : laws_FnExactRouteText.Pure := by
  intro l hl hw
  refine Ev.rounds (g := fun k => laws_FnExactRouteText.f k l) ?_
  simp only [laws_FnExactRouteText.f, szStep l 1048576 (by omega) (by omega) (by omega), Option.bind_some]
  by_cases hs : (1048576 : Int) - l.length < 0
  · simp only [if_pos hs]
    exact Ev.now _
  · simp only [if_neg hs]
    have h0 : l.length ≤ 1048576 := by omega
    have hm : (l.map cvStep).length ≤ 1048576 := by simpa using h0
    obtain ⟨h1, h2⟩ := both_RouteText (l.map cvStep) hm
    refine Ev.bind (toStepS l h0) ?_
    refine Ev.bind h1 ?_
    refine Ev.bind (toStepS l h0) ?_
    refine Ev.bind h2 ?_
    simp only [if_true]
    refine Ev.bind (toStepS l h0) ?_
    refine Ev.bind (eqStepS _ (by omega)) ?_
    simp only [if_true]
    exact Ev.now _

end Go.Proofs.YtefnoiajfjbbpaaDoor.Pure
