/- The pure statement of law FnExactMostLate: what the printed functions compute answers true at every input. No condition. -/
import Derived.Test.YtdgacclmnfpajaaPFnExactMostLatex5
set_option linter.unusedVariables false
set_option linter.unusedSimpArgs false
namespace Go.Proofs.Ytdgacclmnfpajaa.Pure
open Go.RowKit Go.Proofs.Ytdgacclmnfpajaa.PFnExactMostLate Go.Proofs.YtdgacclmnfpajaaW.PrintWords Go.Proofs.YtdgacclmnfpajaaW.PrintLast Go.Proofs.YtdgacclmnfpajaaW.PrintMore


/-! #### Numbers and rounds -/
theorem w64 {x : Int} (h1 : -9223372036854775808 ≤ x) (h2 : x ≤ 9223372036854775807) : wrap64 x = x := by
  unfold wrap64
  omega
theorem wf64 {x : Int} (h : (Lit.int .i64 x).wf = true) : -9223372036854775808 ≤ x ∧ x ≤ 9223372036854775807 := by
  simp only [Lit.wf, IntKind.min, IntKind.max, IntKind.signed, IntKind.bits, Bool.and_eq_true, decide_eq_true_eq, if_true] at h
  omega
theorem ev_of {α : Type} {g : Nat → Option α} {r : α} (h : ∀ k, g k = some r) : Ev g r := ⟨0, fun k _ => h k⟩
theorem ev_eq {α : Type} {g : Nat → Option α} {r r' : α} (h : Ev g r) (e : r = r') : Ev g r' := e ▸ h
/-- A loop over a list: what lies behind, what lies ahead. -/
theorem loop_list {α : Type} (l : List α) (Q : List α → List α → Prop) (h0 : Q l []) (hs : ∀ p x s, l = p ++ x :: s → Q (p ++ [x]) s → Q p (x :: s)) : Q [] l := by
  have h : ∀ s p, l = p ++ s → Q p s := by
    intro s
    induction s with
    | nil => intro p hp; rw [List.append_nil] at hp; rw [← hp]; exact h0
    | cons x s ih => intro p hp; exact hs p x s hp (ih (p ++ [x]) (by simp [hp]))
  exact h l [] rfl
theorem mid_lt {α : Type} {l p s : List α} {x : α} (h : l = p ++ x :: s) : (p.length : Int) < (l.length : Int) := by
  rw [h, List.length_append, List.length_cons]; omega
theorem mid_next {α : Type} {l p s : List α} {x : α} (h : l = p ++ x :: s) (hl : l.length ≤ 9223372036854775807) : wrap64 ((p.length : Int) + 1) = ((p ++ [x]).length : Int) := by
  have := mid_lt h
  rw [w64 (by omega) (by omega), List.length_append]; simp
theorem mid_get {α : Type} {l p s : List α} {x : α} (h : l = p ++ x :: s) (z : α) : l.getD (p.length : Int).toNat z = x := by
  rw [h]; simp
theorem get_mid {α : Type} (p s : List α) (x z : α) : (p ++ x :: s).getD (p.length : Int).toNat z = x := by simp
theorem nat_nn (n : Nat) : (0 : Int) ≤ (n : Int) := by omega
theorem nlt_self {α : Type} (l : List α) : ¬ ((l.length : Int) < (l.length : Int)) := by omega
theorem set_mid {α : Type} (p s : List α) (x y : α) : (p ++ x :: s).set ((p.length : Int).toNat) y = p ++ y :: s := by
  rw [Int.toNat_natCast, List.set_append_right _ _ (Nat.le_refl _)]; simp
theorem nil_or_snoc {α : Type} (p : List α) : p = [] ∨ ∃ q y, p = q ++ [y] := by
  rcases List.eq_nil_or_concat p with h | ⟨q, y, h⟩
  · exact .inl h
  · exact .inr ⟨q, y, by rw [h, List.concat_eq_append]⟩
theorem loop_all {α : Type} (l : List α) (Q : List α → List α → Prop) (h0 : Q l []) (hs : ∀ p x s, l = p ++ x :: s → Q (p ++ [x]) s → Q p (x :: s)) : ∀ s p, l = p ++ s → Q p s := by
  intro s
  induction s with
  | nil => intro p hp; rw [List.append_nil] at hp; rw [← hp]; exact h0
  | cons x s ih => intro p hp; exact hs p x s hp (ih (p ++ [x]) (by simp [hp]))
theorem szShopJob (l : List S102) (a : Int) (ha : 0 ≤ a) (hb : a ≤ 1048576) (h : l.length ≤ 9000000000000000000) : laws_szShopJobS.f l a = some (if a - l.length < 0 then (-1 : Int) else a - l.length) := by
  unfold laws_szShopJobS.f
  rw [w64 (by omega) (by omega)]
  split <;> rfl
def cvShopJob (x : S102) : S100 := ⟨x.f0, x.f1, x.f2⟩
theorem toShopJobS (l : List S102) (h : l.length ≤ 1048576) : Ev (fun k => laws_toShopJobS.f k l) (l.map cvShopJob) := by
  have H := loop_list l (fun p s => ∀ (a t : List S100), a.length = p.length → t.length = s.length → Ev (fun k => laws_toShopJobS.l0 k l (a ++ t) (p.length : Int)) (a ++ s.map cvShopJob)) ?_ ?_
  · have := H [] (List.replicate l.length z100) rfl (by simp)
    simp only [laws_toShopJobS.f, Int.toNat_natCast, if_pos (nat_nn l.length)]
    rw [show (fun k => if l.length ≤ _ then _ else _) = (fun k => laws_toShopJobS.l0 k l (List.replicate l.length z100) 0) from funext fun k => if_pos (by omega)]
    simpa using this
  · intro a t ha ht
    refine Ev.step (fun k => by rw [laws_toShopJobS.l0]) ?_
    simp only [if_neg (nlt_self l)]
    have : t = [] := List.eq_nil_of_length_eq_zero (by simpa using ht)
    subst this
    exact Ev.now _
  · intro p x s he ih a t ha ht
    obtain ⟨y, t, rfl⟩ : ∃ y t', t = y :: t' := by cases t with | nil => simp at ht | cons y t => exact ⟨y, t, rfl⟩
    refine Ev.step (fun k => by rw [laws_toShopJobS.l0]) ?_
    have e : ((p.length : Int) < ((a ++ y :: t).length : Int)) := by simp; omega
    have e2 := set_mid a t y (cvShopJob x)
    rw [ha] at e2
    simp only [if_pos (mid_lt he), if_pos (nat_nn p.length), laws_toShopJob.f, Option.bind_some, if_pos e, mid_next he (by omega), rd_T102, mid_get he]
    have := ih (a ++ [cvShopJob x]) t (by simp [ha]) (by simpa using ht)
    simp only [cvShopJob, List.append_assoc, List.singleton_append, List.map_cons] at this e2 ⊢
    rw [e2]
    exact this
theorem eqShopJobS (l : List S100) (h : l.length ≤ 9000000000000000000) : Ev (fun k => laws_eqShopJobS.f k l l) true := by
  simp only [laws_eqShopJobS.f, if_true]
  refine loop_list l (fun p s => Ev (fun k => laws_eqShopJobS.l0 k l l (p.length : Int)) true) ?_ ?_
  · refine Ev.step (fun k => by rw [laws_eqShopJobS.l0]) ?_
    simp only [if_neg (nlt_self l)]
    exact Ev.now _
  · intro p x s he ih
    refine Ev.step (fun k => by rw [laws_eqShopJobS.l0]) ?_
    simp only [if_pos (mid_lt he), if_pos (nat_nn p.length), laws_eqShopJob.f, if_true, Option.bind_some, mid_next he (by omega)]
    exact ih
theorem toInt64S (l : List Int) (h : l.length ≤ 1048576) : Ev (fun k => laws_toInt64S.f k l) l := by
  have H := loop_list l (fun p s => ∀ (a t : List Int), a.length = p.length → t.length = s.length → Ev (fun k => laws_toInt64S.l0 k l (a ++ t) (p.length : Int)) (a ++ s)) ?_ ?_
  · have := H [] (List.replicate l.length 0) rfl (by simp)
    simp only [laws_toInt64S.f, Int.toNat_natCast, if_pos (nat_nn l.length), if_pos (show l.length ≤ 35184372088832 by omega)]
    simpa using this
  · intro a t ha ht
    refine Ev.step (fun k => by rw [laws_toInt64S.l0]) ?_
    simp only [if_neg (nlt_self l)]
    have : t = [] := List.eq_nil_of_length_eq_zero (by simpa using ht)
    subst this
    exact Ev.now _
  · intro p x s he ih a t ha ht
    obtain ⟨y, t, rfl⟩ : ∃ y t', t = y :: t' := by cases t with | nil => simp at ht | cons y t => exact ⟨y, t, rfl⟩
    refine Ev.step (fun k => by rw [laws_toInt64S.l0]) ?_
    have e : ((p.length : Int) < ((a ++ y :: t).length : Int)) := by simp; omega
    have e2 := set_mid a t y x
    rw [ha] at e2
    have hx : rd l (p.length : Int) = x := mid_get he 0
    simp only [if_pos (mid_lt he), if_pos (nat_nn p.length), if_pos e, mid_next he (by omega), hx]
    have := ih (a ++ [x]) t (by simp [ha]) (by simpa using ht)
    simp only [List.append_assoc, List.singleton_append] at this e2 ⊢
    rw [e2]
    exact this
theorem eqInt64S (l : List Int) (h : l.length ≤ 9000000000000000000) : Ev (fun k => laws_eqInt64S.f k l l) true := by
  simp only [laws_eqInt64S.f, if_true]
  refine loop_list l (fun p s => Ev (fun k => laws_eqInt64S.l0 k l l (p.length : Int)) true) ?_ ?_
  · refine Ev.step (fun k => by rw [laws_eqInt64S.l0]) ?_
    simp only [if_neg (nlt_self l)]
    exact Ev.now _
  · intro p x s he ih
    refine Ev.step (fun k => by rw [laws_eqInt64S.l0]) ?_
    simp only [if_pos (mid_lt he), if_pos (nat_nn p.length), if_true, mid_next he (by omega)]
    exact ih
/-- The numbers from m on. -/
def numsI (m : Int) : Nat → List Int
  | 0 => []
  | n + 1 => m :: numsI (m + 1) n
theorem numsI_length (n : Nat) : ∀ m, (numsI m n).length = n := by
  induction n with
  | zero => intro m; rfl
  | succ n ih => intro m; simp [numsI, ih]
def inR (a lo hi : Int) : Bool := decide (lo ≤ a) && decide (a ≤ hi)
theorem inR_iff {a lo hi : Int} : inR a lo hi = true ↔ lo ≤ a ∧ a ≤ hi := by simp [inR]
theorem l01In (a lo hi : Int) : spec_l01In.f a lo hi = some (inR a lo hi) := by
  unfold spec_l01In.f inR
  split
  · rename_i h; rw [decide_eq_true (show lo ≤ a from h), Bool.true_and]
  · rename_i h; rw [decide_eq_false (show ¬ lo ≤ a from h), Bool.false_and]
theorem inRange (a lo hi : Int) : impl_inRange.f a lo hi = some (inR a lo hi) := by
  unfold impl_inRange.f inR
  split
  · rename_i h; rw [decide_eq_true (show lo ≤ a from h), Bool.true_and]
  · rename_i h; rw [decide_eq_false (show ¬ lo ≤ a from h), Bool.false_and]
def okShop (x : S100) : Bool := inR x.f0 0 9 && (inR x.f1 0 100000 && inR x.f2 0 100000)
def shopB (a : Int) (l : List S100) : Bool := l.all okShop && (inR a 0 100000 && decide (l.length ≤ 7))
theorem spec_IsShop (a : Int) (l : List S100) (h : l.length ≤ 1048576) : Ev (fun k => spec_IsShop.f k a l) (shopB a l) := by
  refine loop_list l (fun p s => Ev (fun k => spec_IsShop.l0 k a l (p.length : Int)) (s.all okShop && (inR a 0 100000 && decide (l.length ≤ 7)))) ?_ ?_
  · refine Ev.step (fun k => by rw [spec_IsShop.l0]) ?_
    simp only [if_neg (nlt_self l), List.all_nil, Bool.true_and, l01In, Option.bind_some]
    cases inR a 0 100000 <;> simp <;> first | exact Ev.now _ | exact ev_eq (Ev.now _) (decide_eq_decide.2 (by omega))
  · intro p x s he ih
    refine Ev.step (fun k => by rw [spec_IsShop.l0]) ?_
    simp only [if_pos (mid_lt he), if_pos (nat_nn p.length), mid_next he (by omega), rd_T100, mid_get he, l01In, Option.bind_some, List.all_cons]
    cases h0 : inR x.f0 0 9 <;> cases h1 : inR x.f1 0 100000 <;> cases h2 : inR x.f2 0 100000 <;> simp [okShop, h0, h1, h2] <;> first | exact Ev.now _ | simpa [mid_next he (by omega)] using ih
theorem impl_IsShop_1_ok (x : S100) : impl_IsShop_1.f x.f0 x.f1 x.f2 = some (!(okShop x)) := by
  simp only [impl_IsShop_1.f, impl_isMinutes.f, inRange, Option.bind_some, okShop]
  cases inR x.f0 0 9 <;> cases inR x.f1 0 100000 <;> cases inR x.f2 0 100000 <;> rfl
theorem contains_impl_IsShop_1 (l : List S100) (h : l.length ≤ 1048576) : Ev (fun k => slices_ContainsFunc_at_impl_IsShop_1.f k l) (!(l.all okShop)) := by
  have H := loop_list l (fun p s => ∃ r, Ev (fun k => slices_IndexFunc_at_impl_IsShop_1.l0 k l (l.length : Int) (p.length : Int)) r ∧ decide (r ≥ 0) = !(s.all okShop)) ?_ ?_
  · obtain ⟨r, hr, e⟩ := H
    rw [← e]
    exact Ev.bind hr (Ev.now _)
  · refine ⟨-1, Ev.step (fun k => by rw [slices_IndexFunc_at_impl_IsShop_1.l0]) ?_, by simp⟩
    simp only [if_neg (nlt_self l)]
    exact Ev.now _
  · rintro p x s he ⟨r, ih, e⟩
    by_cases hx : okShop x = true
    · refine ⟨r, Ev.step (fun k => by rw [slices_IndexFunc_at_impl_IsShop_1.l0]) ?_, by rw [e]; simp [hx]⟩
      simp only [if_pos (mid_lt he), if_pos (nat_nn p.length), rd_T100, mid_get he, impl_IsShop_1_ok, hx, Option.bind_some, mid_next he (by omega)]
      exact ih
    · refine ⟨(p.length : Int), Ev.step (fun k => by rw [slices_IndexFunc_at_impl_IsShop_1.l0]) ?_, by simp [hx]⟩
      simp only [if_pos (mid_lt he), if_pos (nat_nn p.length), rd_T100, mid_get he, impl_IsShop_1_ok, Bool.eq_false_iff.2 hx, Option.bind_some]
      exact Ev.now _
theorem impl_IsShop (a : Int) (l : List S100) (h : l.length ≤ 1048576) : Ev (fun k => impl_IsShop.f k a l) (shopB a l) := by
  simp only [impl_IsShop.f, impl_isMinutes.f, inRange, Option.bind_some, shopB]
  cases inR a 0 100000
  · simp only [Bool.false_eq_true, if_false, Bool.false_and, Bool.and_false]
    exact Ev.now _
  · by_cases hl : (l.length : Int) ≤ 7
    · simp only [if_pos hl, if_true]
      exact ev_eq (Ev.bind (contains_impl_IsShop_1 l h) (Ev.now _)) (by simp [show l.length ≤ 7 by omega])
    · simp only [if_neg hl, if_true]
      exact ev_eq (Ev.now _) (by simp [show ¬ l.length ≤ 7 by omega])

/-- Each number is in the range, and none comes twice. -/
def ordF (n : Int) (seen : List Int) : List Int → Bool
  | [] => true
  | x :: s => inR x 0 (n - 1) && (!(decide (x ∈ seen)) && ordF n (seen ++ [x]) s)
def orderB (l : List Int) : Bool := ordF (l.length : Int) [] l && decide (l.length ≤ 64)
theorem spec_has (l : List Int) (y : Int) (h : l.length ≤ 9000000000000000000) : Ev (fun k => spec_l01Has.f k l y) (decide (y ∈ l)) := by
  refine loop_list l (fun p s => Ev (fun k => spec_l01Has.l0 k l y (p.length : Int)) (decide (y ∈ s))) ?_ ?_
  · refine Ev.step (fun k => by rw [spec_l01Has.l0]) ?_
    simp only [if_neg (nlt_self l)]
    exact ev_eq (Ev.now _) (by simp)
  · intro p x s he ih
    refine Ev.step (fun k => by rw [spec_l01Has.l0]) ?_
    have hx : rd l (p.length : Int) = x := mid_get he 0
    simp only [if_pos (mid_lt he), if_pos (nat_nn p.length), hx, mid_next he (by omega)]
    by_cases e : x = y
    · simp only [if_pos e]
      exact ev_eq (Ev.now _) (by simp [e])
    · simp only [if_neg e]
      exact ev_eq ih (by simp [show ¬ y = x from fun h => e h.symm])
theorem spec_IsOrder (l : List Int) (h : l.length ≤ 1048576) : Ev (fun k => spec_IsOrder.f k l) (orderB l) := by
  refine loop_list l (fun p s => Ev (fun k => spec_IsOrder.l0 k l (p.length : Int)) (ordF (l.length : Int) p s && decide (l.length ≤ 64))) ?_ ?_
  · refine Ev.step (fun k => by rw [spec_IsOrder.l0]) ?_
    simp only [if_neg (nlt_self l), ordF, Bool.true_and]
    exact ev_eq (Ev.now _) (decide_eq_decide.2 (by omega))
  · intro p x s he ih
    refine Ev.step (fun k => by rw [spec_IsOrder.l0]) ?_
    have hx : rd l (p.length : Int) = x := mid_get he 0
    have hp := mid_lt he
    have ht : l.take ((p.length : Int).toNat) = p := by rw [he, Int.toNat_natCast]; simp
    simp only [if_pos hp, if_pos (nat_nn p.length), hx, w64 (x := (l.length : Int) - 1) (by omega) (by omega), l01In, Option.bind_some, if_pos (show (p.length : Int) ≤ (l.length : Int) by omega), ht, mid_next he (by omega), ordF]
    cases inR x 0 ((l.length : Int) - 1)
    · simp only [Bool.false_eq_true, if_false, Bool.false_and]
      exact Ev.now _
    · simp only [if_true, Bool.true_and]
      refine Ev.bind (spec_has p x (by omega)) ?_
      cases decide (x ∈ p)
      · simp only [Bool.false_eq_true, if_false, Bool.not_false, Bool.true_and]
        exact ih
      · simp only [if_true, Bool.not_true, Bool.false_and]
        exact Ev.now _
theorem impl_IsOrder (l : List Int) (h : l.length ≤ 1048576) : Ev (fun k => impl_IsOrder.f k l) (orderB l) := by
  simp only [impl_IsOrder.f]
  by_cases hl : (l.length : Int) > 64
  · simp only [if_pos hl]
    exact ev_eq (Ev.now _) (by simp [orderB, show ¬ l.length ≤ 64 by omega])
  · simp only [if_neg hl, if_pos (nat_nn l.length), Int.toNat_natCast, if_pos (show l.length ≤ 281474976710656 by omega)]
    refine ev_eq (r := ordF (l.length : Int) [] l) ?_ (by simp [orderB, show l.length ≤ 64 by omega])
    refine loop_list l (fun p s => ∀ b : List Bool, b.length = l.length → (∀ v : Nat, v < l.length → b.getD v false = decide ((v : Int) ∈ p)) → Ev (fun k => impl_IsOrder.l0 k l b l (l.length : Int) (p.length : Int)) (ordF (l.length : Int) p s)) ?_ ?_ (List.replicate l.length false) (by simp) (by intro v hv; simp [List.getD_eq_getElem?_getD, List.getElem?_replicate, hv])
    · intro b hb hv
      refine Ev.step (fun k => by rw [impl_IsOrder.l0]) ?_
      simp only [if_neg (nlt_self l), ordF]
      exact Ev.now _
    · intro p x s he ih b hb hv
      refine Ev.step (fun k => by rw [impl_IsOrder.l0]) ?_
      have hx : rd l (p.length : Int) = x := mid_get he 0
      have hp := mid_lt he
      simp only [if_pos hp, if_pos (nat_nn p.length), hx, impl_length_int64.f, w64 (x := (l.length : Int) - 1) (by omega) (by omega), inRange, Option.bind_some, mid_next he (by omega), ordF]
      cases hr : inR x 0 ((l.length : Int) - 1)
      · simp only [Bool.false_eq_true, if_false, Bool.false_and]
        exact Ev.now _
      · obtain ⟨h0, h1⟩ := inR_iff.1 hr
        have hg : rdOf false b x = decide (x ∈ p) := by
          have := hv x.toNat (by omega)
          rw [show ((x.toNat : Nat) : Int) = x by omega] at this
          rw [← this]
          rfl
        simp only [if_true, Bool.true_and, if_pos h0, if_pos (show x < (b.length : Int) by omega), hg]
        cases hd : decide (x ∈ p)
        · simp only [Bool.false_eq_true, if_false, Bool.not_false, Bool.true_and]
          refine ih (b.set x.toNat true) (by simpa using hb) (fun v hv' => ?_)
          have := hv v hv'
          simp only [List.getD_eq_getElem?_getD, List.getElem?_set, hb] at this ⊢
          by_cases e : x.toNat = v
          · simp [e, hv', show (v : Int) = x by omega]
          · simp only [if_neg e, List.mem_append, List.mem_singleton, this]
            simp [show ¬ (v : Int) = x by omega]
        · simp only [if_true, Bool.not_true, Bool.false_and]
          exact Ev.now _
theorem ordF_mem {n : Int} : ∀ (s seen : List Int), ordF n seen s = true → ∀ x ∈ s, 0 ≤ x ∧ x < n := by
  intro s
  induction s with
  | nil => intro seen _ x hx; cases hx
  | cons y s ih =>
    intro seen h x hx
    simp only [ordF, Bool.and_eq_true, inR_iff] at h
    rcases List.mem_cons.1 hx with rfl | hx
    · omega
    · exact ih _ h.2.2 x hx
theorem orderB_mem {l : List Int} (h : orderB l = true) {x : Int} (hx : x ∈ l) : 0 ≤ x ∧ x < (l.length : Int) := by
  simp only [orderB, Bool.and_eq_true] at h
  exact ordF_mem _ _ h.1 x hx
def shopCode (a : Int) (l : List S100) (o : List Int) : Int := if shopB a l = true then (if orderB o = true then (if (o.length : Int) = (l.length : Int) then 0 else 2) else 2) else 1
theorem spec_shopCode (a : Int) (l : List S100) (o : List Int) (h : l.length ≤ 1048576) (ho : o.length ≤ 1048576) : Ev (fun k => spec_l20Code.f k a l o) (shopCode a l o) := by
  simp only [spec_l20Code.f]
  refine Ev.bind (spec_IsShop a l h) ?_
  cases h1 : shopB a l
  · simp only [Bool.false_eq_true, if_false]
    exact ev_eq (Ev.now _) (by simp [shopCode, h1])
  · simp only [if_true]
    refine Ev.bind (spec_IsOrder o ho) ?_
    cases h2 : orderB o <;> simp only [Bool.false_eq_true, if_false, if_true]
    · exact ev_eq (Ev.now _) (by simp [shopCode, h1, h2])
    · by_cases h3 : (o.length : Int) = (l.length : Int)
      · simp only [if_pos h3]
        exact ev_eq (Ev.now _) (by simp only [shopCode, h1, h2, if_true, if_pos h3])
      · simp only [if_neg h3]
        exact ev_eq (Ev.now _) (by simp only [shopCode, h1, h2, if_true, if_neg h3])
theorem impl_shopCode (a : Int) (l : List S100) (o : List Int) (h : l.length ≤ 1048576) (ho : o.length ≤ 1048576) : Ev (fun k => impl_checkShop.f k a l o) (shopCode a l o) := by
  simp only [impl_checkShop.f]
  refine Ev.bind (impl_IsShop a l h) ?_
  cases h1 : shopB a l
  · simp only [Bool.false_eq_true, if_false]
    exact ev_eq (Ev.now _) (by simp [shopCode, h1])
  · simp only [if_true]
    refine Ev.bind (impl_IsOrder o ho) ?_
    cases h2 : orderB o <;> simp only [Bool.false_eq_true, if_false, if_true]
    · exact ev_eq (Ev.now _) (by simp [shopCode, h1, h2])
    · by_cases h3 : (o.length : Int) = (l.length : Int)
      · simp only [if_pos h3]
        exact ev_eq (Ev.now _) (by simp only [shopCode, h1, h2, if_true, if_pos h3])
      · simp only [if_neg h3]
        exact ev_eq (Ev.now _) (by simp only [shopCode, h1, h2, if_true, if_neg h3])
theorem shopCode_zero {a : Int} {l : List S100} {o : List Int} (h : shopCode a l o = 0) : shopB a l = true ∧ orderB o = true ∧ o.length = l.length ∧ l.length ≤ 7 := by
  unfold shopCode at h
  by_cases h1 : shopB a l = true <;> by_cases h2 : orderB o = true <;> by_cases h3 : (o.length : Int) = (l.length : Int) <;> simp [h1, h2, h3] at h
  refine ⟨h1, h2, by omega, ?_⟩
  simp only [shopB, Bool.and_eq_true, decide_eq_true_eq] at h1
  exact h1.2.2
theorem both_shopCode {α : Type} (a : Int) (l : List S100) (o : List Int) (h : l.length ≤ 1048576) (ho : o.length ≤ 1048576) (g g' : Nat → Option α) (e : Int → α) (hg : shopCode a l o = 0 → ∃ r, Ev g r ∧ Ev g' r) :
    ∃ r, Ev (fun k => (spec_l20Code.f k a l o).bind fun c => if c = 0 then g k else some (e c)) r ∧ Ev (fun k => (impl_checkShop.f k a l o).bind fun c => if c = 0 then g' k else some (e c)) r := by
  by_cases hc : shopCode a l o = 0
  · obtain ⟨r, h1, h2⟩ := hg hc
    refine ⟨r, Ev.bind (spec_shopCode a l o h ho) ?_, Ev.bind (impl_shopCode a l o h ho) ?_⟩ <;> simp only [if_pos hc]
    · exact h1
    · exact h2
  · refine ⟨e (shopCode a l o), Ev.bind (spec_shopCode a l o h ho) ?_, Ev.bind (impl_shopCode a l o h ho) ?_⟩ <;> simp only [if_neg hc] <;> exact Ev.now _
theorem both_work (a : Int) (l : List S100) (o : List Int) (hl7 : l.length ≤ 7) (hol : o.length = l.length) (hb : ∀ x ∈ o, 0 ≤ x ∧ x < (l.length : Int)) : ∃ r, Ev (fun k => spec_l20Done.f k a l o) r ∧ Ev (fun k => impl_work.f k a l o) r ∧ r.1.length = l.length := by
  simp only [spec_l20Done.f, impl_work.f, if_pos (nat_nn l.length), Int.toNat_natCast, if_pos (show l.length ≤ 35184372088832 by omega)]
  refine loop_list o (fun p s => ∀ (x8 : List Int) (x9 x10 x11 : Int), x8.length = l.length → ∃ r, Ev (fun k => spec_l20Done.l0 k a l o x8 x9 x10 x11 (p.length : Int)) r ∧ Ev (fun k => impl_work.l0 k a l x8 x9 x10 x11 o (o.length : Int) (p.length : Int)) r ∧ r.1.length = l.length) ?_ ?_ (List.replicate l.length 0) 0 (-1) 0 (by simp)
  · intro x8 x9 x10 x11 h8
    refine ⟨(x8, x11), Ev.step (fun k => by rw [spec_l20Done.l0]) ?_, Ev.step (fun k => by rw [impl_work.l0]) ?_, h8⟩ <;> simp only [if_neg (nlt_self o)] <;> exact Ev.now _
  · intro p x s he ih x8 x9 x10 x11 h8
    have hx : rd o (p.length : Int) = x := mid_get he 0
    have hr := hb x (by rw [he]; simp)
    by_cases hf : (rd_T100 l x).f0 = x10
    · obtain ⟨r, h1, h2, h3⟩ := ih (x8.set x.toNat (wrap64 (x9 + (rd_T100 l x).f1))) (wrap64 (x9 + (rd_T100 l x).f1)) x10 x11 (by simpa using h8)
      refine ⟨r, Ev.step (fun k => by rw [spec_l20Done.l0]) ?_, Ev.step (fun k => by rw [impl_work.l0]) ?_, h3⟩ <;> simp only [if_pos (mid_lt he), if_pos (nat_nn p.length), hx, if_pos hr.1, if_pos (show x < (l.length : Int) by omega), if_pos (show x < (x8.length : Int) by omega), if_pos hf, mid_next he (by omega)]
      · rw [hf]; exact h1
      · exact h2
    · obtain ⟨r, h1, h2, h3⟩ := ih (x8.set x.toNat (wrap64 (wrap64 (x9 + a) + (rd_T100 l x).f1))) (wrap64 (wrap64 (x9 + a) + (rd_T100 l x).f1)) (rd_T100 l x).f0 (wrap64 (x11 + 1)) (by simpa using h8)
      refine ⟨r, Ev.step (fun k => by rw [spec_l20Done.l0]) ?_, Ev.step (fun k => by rw [impl_work.l0]) ?_, h3⟩ <;> simp only [if_pos (mid_lt he), if_pos (nat_nn p.length), hx, if_pos hr.1, if_pos (show x < (l.length : Int) by omega), if_pos (show x < (x8.length : Int) by omega), if_neg hf, mid_next he (by omega)]
      · exact h1
      · exact h2
theorem both_works {a : Int} {l : List S100} {o : List Int} (hc : shopCode a l o = 0) : ∃ r, Ev (fun k => spec_l20Done.f k a l o) r ∧ Ev (fun k => impl_work.f k a l o) r ∧ r.1.length = l.length := by
  obtain ⟨_, hb, hol, hl7⟩ := shopCode_zero hc
  exact both_work a l o hl7 hol (fun x hx => by rw [← hol]; exact orderB_mem hb hx)
theorem max_cons (y : Int) (t : List Int) (h : (y :: t).length ≤ 1048576) : Ev (fun k => slices_Max__int64_int64.f k (y :: t)) (t.foldl mx y) := by
  have H := loop_all (y :: t) (fun p s => ∀ acc, Ev (fun k => slices_Max__int64_int64.l0 k (y :: t) acc (p.length : Int)) (s.foldl mx acc)) ?_ ?_ t [y] rfl y
  · have e1 : ¬ (((y :: t).length : Int) < 1) := by simp only [List.length_cons]; omega
    have e2 : 0 < ((y :: t).length : Int) := by simp only [List.length_cons]; omega
    simp only [slices_Max__int64_int64.f, if_neg e1, if_pos e2]
    exact H
  · intro acc
    refine Ev.step (fun k => by rw [slices_Max__int64_int64.l0]) ?_
    simp only [if_neg (nlt_self (y :: t)), List.foldl_nil]
    exact Ev.now _
  · intro p x s he ih acc
    refine Ev.step (fun k => by rw [slices_Max__int64_int64.l0]) ?_
    have hx : rd (y :: t) (p.length : Int) = x := mid_get he 0
    simp only [if_pos (mid_lt he), if_pos (nat_nn p.length), hx, mid_next he (by omega), List.foldl_cons]
    exact ih _
def lateF (d : List Int) : Nat → List S100 → List Int
  | _, [] => []
  | i, x :: s => wrap64 (rd d (i : Int) - x.f2) :: lateF d (i + 1) s
theorem lateF_length (d : List Int) : ∀ (s : List S100) i, (lateF d i s).length = s.length := by
  intro s
  induction s with
  | nil => intro i; rfl
  | cons x s ih => intro i; simp [lateF, ih]
/-- The lateness of the latest job. -/
def mostB (d : List Int) : List S100 → Int
  | [] => 0
  | x :: s => (lateF d 1 s).foldl mx (wrap64 (rd d 0 - x.f2))
theorem spec_late {a : Int} {l : List S100} {o : List Int} {r : List Int × Int} (hd : Ev (fun k => spec_l20Done.f k a l o) r) (hr : r.1.length = l.length) (h0 : 0 < l.length) (h7 : l.length ≤ 1048576) : Ev (fun k => spec_l20Late.f k a l o) (mostB r.1 l) := by
  simp only [spec_l20Late.f]
  refine Ev.bind hd ?_
  cases l with
  | nil => simp at h0
  | cons x s =>
    simp only [if_pos (show 0 < (r.1.length : Int) by omega), if_pos (show 0 < ((x :: s).length : Int) by omega)]
    have e : (rd_T100 (x :: s) 0).f2 = x.f2 := rfl
    rw [e]
    exact loop_all (x :: s) (fun p t => ∀ acc, Ev (fun k => spec_l20Late.l0 k (x :: s) r.1 acc (p.length : Int)) ((lateF r.1 p.length t).foldl mx acc)) (by
      intro acc
      refine Ev.step (fun k => by rw [spec_l20Late.l0]) ?_
      simp only [if_neg (nlt_self (x :: s)), lateF, List.foldl_nil]
      exact Ev.now _) (by
      intro p y t he ih acc
      have hp := mid_lt he
      refine Ev.step (fun k => by rw [spec_l20Late.l0]) ?_
      simp only [if_pos hp, if_pos (nat_nn p.length), if_pos (show (p.length : Int) < (r.1.length : Int) by omega), rd_T100, mid_get he, mid_next he (by omega), lateF, List.foldl_cons]
      have := ih (mx acc (wrap64 (rd r.1 (p.length : Int) - y.f2)))
      rw [show (p ++ [y]).length = p.length + 1 by simp] at this ⊢
      exact this) s [x] rfl _
theorem impl_late {a : Int} {l : List S100} {o : List Int} {r : List Int × Int} (hd : Ev (fun k => impl_work.f k a l o) r) (hr : r.1.length = l.length) (h0 : 0 < l.length) (h7 : l.length ≤ 1048576) : Ev (fun k => impl_mostLate.f k a l o) (mostB r.1 l) := by
  simp only [impl_mostLate.f]
  refine Ev.bind hd ?_
  have H := loop_list l (fun p t => ∀ acc : List Int, acc.length = p.length → Ev (fun k => slices_Max__int64_int64.f k (acc ++ lateF r.1 p.length t)) (mostB r.1 l) → Ev (fun k => impl_mostLate.l0 k l acc r.1 (r.1.length : Int) (p.length : Int)) (mostB r.1 l)) ?_ ?_ [] rfl ?_
  · exact H
  · intro acc ha hm
    refine Ev.step (fun k => by rw [impl_mostLate.l0]) ?_
    simp only [if_neg (show ¬ (l.length : Int) < (r.1.length : Int) by omega)]
    simp only [lateF, List.append_nil] at hm
    exact Ev.bind hm (Ev.now _)
  · intro p y t he ih acc ha hm
    have hp := mid_lt he
    refine Ev.step (fun k => by rw [impl_mostLate.l0]) ?_
    simp only [if_pos hp, if_pos (nat_nn p.length), if_pos (show (p.length : Int) < (r.1.length : Int) by omega), rd_T100, mid_get he, mid_next he (by omega), if_pos (show acc.length < 17592186044416 by omega)]
    refine ih _ (by simp [ha]) ?_
    simp only [lateF] at hm
    rw [show (p ++ [y]).length = p.length + 1 by simp]
    simpa using hm
  · cases l with
    | nil => simp at h0
    | cons x s =>
      simp only [List.nil_append, lateF, mostB]
      exact max_cons _ _ (by simp only [List.length_cons, lateF_length] at h7 ⊢; omega)
theorem both_MostLate (a : Int) (l : List S100) (o : List Int) (h : l.length ≤ 1048576) (ho : o.length ≤ 1048576) : ∃ r, Ev (fun k => spec_MostLate.f k a l o) r ∧ Ev (fun k => impl_MostLate.f k a l o) r := by
  simp only [spec_MostLate.f, impl_MostLate.f]
  by_cases hc : shopCode a l o = 0
  · by_cases h0 : l.length = 0
    · refine ⟨(0, 4), Ev.bind (spec_shopCode a l o h ho) ?_, Ev.bind (impl_shopCode a l o h ho) ?_⟩
      · simp only [if_pos hc, h0]
        exact Ev.step (fun k => by rw [spec_MostLate.j0, if_pos (by decide)]) (Ev.now _)
      · simp only [if_pos hc, if_pos (show (l.length : Int) = 0 by omega)]
        exact Ev.now _
    · obtain ⟨r, h1, h2, h3⟩ := both_works hc
      refine ⟨(mostB r.1 l, 0), Ev.bind (spec_shopCode a l o h ho) ?_, Ev.bind (impl_shopCode a l o h ho) ?_⟩
      · have e : ((l.length : Int) == 0) = false := beq_eq_false_iff_ne.2 (by omega)
        simp only [if_pos hc, hc, e]
        refine Ev.step (fun k => by rw [spec_MostLate.j0, if_neg (show ¬ (false = true) by decide), if_pos rfl]) ?_
        exact Ev.bind (spec_late h1 h3 (by omega) h) (Ev.now _)
      · simp only [if_pos hc, if_neg (show ¬ (l.length : Int) = 0 by omega)]
        exact Ev.bind (impl_late h2 h3 (by omega) h) (Ev.now _)
  · refine ⟨(0, shopCode a l o), Ev.bind (spec_shopCode a l o h ho) ?_, Ev.bind (impl_shopCode a l o h ho) ?_⟩
    · simp only [if_neg hc]
      refine Ev.step (fun k => by rw [spec_MostLate.j0, if_neg (show ¬ (false = true) by decide), if_neg hc]) (Ev.now _)
    · simp only [if_neg hc]
      exact Ev.now _
theorem FnExactMostLate : laws_FnExactMostLate.Pure := by
  intro a l o _ hl hw hlo hwo
  refine Ev.rounds (g := fun k => laws_FnExactMostLate.f k a l o) ?_
  simp only [laws_FnExactMostLate.f]
  by_cases hs0 : (o.length : Int) > 1048576
  · simp only [if_pos hs0]
    exact Ev.now _
  simp only [if_neg hs0, szShopJob l 1048576 (by omega) (by omega) (by omega), Option.bind_some]
  by_cases hs : (1048576 : Int) - l.length < 0
  · simp only [if_pos hs]
    exact Ev.now _
  · simp only [if_neg hs]
    have h0 : l.length ≤ 1048576 := by omega
    have ho : o.length ≤ 1048576 := by omega
    have hm : (l.map cvShopJob).length ≤ 1048576 := by simpa using h0
    obtain ⟨r, h1, h2⟩ := both_MostLate a (l.map cvShopJob) o hm ho
    refine Ev.bind (toShopJobS l h0) ?_
    refine Ev.bind (toInt64S o ho) ?_
    refine Ev.bind h1 ?_
    refine Ev.bind (toShopJobS l h0) ?_
    refine Ev.bind (toInt64S o ho) ?_
    refine Ev.bind h2 ?_
    simp only [if_true, bne_self_eq_false]
    refine Ev.step (fun k => by rw [laws_FnExactMostLate.j0]) ?_
    simp only [Bool.false_eq_true, if_false]
    refine Ev.bind (toShopJobS l h0) ?_
    refine Ev.bind (eqShopJobS _ (by omega)) ?_
    simp only [if_true]
    refine Ev.bind (toInt64S o ho) ?_
    refine Ev.bind (eqInt64S o (by omega)) ?_
    simp only [if_true]
    exact Ev.now _

end Go.Proofs.Ytdgacclmnfpajaa.Pure
