/- The pure statement of law FnDone: what the printed functions compute answers true at every input. No condition. -/
import Derived.Test.YtefnoiajfjbbpaaPFnDonex7
set_option linter.unusedVariables false
set_option linter.unusedSimpArgs false
namespace Go.Proofs.Ytefnoiajfjbbpaa.Pure
open Go.RowKit Go.Proofs.Ytefnoiajfjbbpaa.PFnDone Go.Proofs.YtefnoiajfjbbpaaW.PrintWords Go.Proofs.YtefnoiajfjbbpaaW.PrintLast Go.Proofs.YtefnoiajfjbbpaaW.PrintMore


/-! #### Numbers and rounds -/
theorem w64 {x : Int} (h1 : -9223372036854775808 ≤ x) (h2 : x ≤ 9223372036854775807) : wrap64 x = x := by
  unfold wrap64
  omega
theorem wf64 {x : Int} (h : (Lit.int .i64 x).wf = true) : -9223372036854775808 ≤ x ∧ x ≤ 9223372036854775807 := by
  simp only [Lit.wf, IntKind.min, IntKind.max, IntKind.signed, IntKind.bits, Bool.and_eq_true, decide_eq_true_eq, if_true] at h
  omega
theorem ev_of {α : Type} {g : Nat → Option α} {r : α} (h : ∀ k, g k = some r) : Ev g r := ⟨0, fun k _ => h k⟩
theorem ev_eq {α : Type} {g : Nat → Option α} {r r' : α} (h : Ev g r) (e : r = r') : Ev g r' := e ▸ h
/-- A loop over a list: what lies behind, what lies ahead. -/
theorem loop_list {α : Type} (l : List α) (Q : List α → List α → Prop) (h0 : Q l []) (hs : ∀ p x s, l = p ++ x :: s → Q (p ++ [x]) s → Q p (x :: s)) : Q [] l := by
  have h : ∀ s p, l = p ++ s → Q p s := by
    intro s
    induction s with
    | nil => intro p hp; rw [List.append_nil] at hp; rw [← hp]; exact h0
    | cons x s ih => intro p hp; exact hs p x s hp (ih (p ++ [x]) (by simp [hp]))
  exact h l [] rfl
theorem mid_lt {α : Type} {l p s : List α} {x : α} (h : l = p ++ x :: s) : (p.length : Int) < (l.length : Int) := by
  rw [h, List.length_append, List.length_cons]; omega
theorem mid_next {α : Type} {l p s : List α} {x : α} (h : l = p ++ x :: s) (hl : l.length ≤ 9223372036854775807) : wrap64 ((p.length : Int) + 1) = ((p ++ [x]).length : Int) := by
  have := mid_lt h
  rw [w64 (by omega) (by omega), List.length_append]; simp
theorem mid_get {α : Type} {l p s : List α} {x : α} (h : l = p ++ x :: s) (z : α) : l.getD (p.length : Int).toNat z = x := by
  rw [h]; simp
theorem get_mid {α : Type} (p s : List α) (x z : α) : (p ++ x :: s).getD (p.length : Int).toNat z = x := by simp
theorem nat_nn (n : Nat) : (0 : Int) ≤ (n : Int) := by omega
theorem nlt_self {α : Type} (l : List α) : ¬ ((l.length : Int) < (l.length : Int)) := by omega
theorem set_mid {α : Type} (p s : List α) (x y : α) : (p ++ x :: s).set ((p.length : Int).toNat) y = p ++ y :: s := by
  rw [Int.toNat_natCast, List.set_append_right _ _ (Nat.le_refl _)]; simp
theorem nil_or_snoc {α : Type} (p : List α) : p = [] ∨ ∃ q y, p = q ++ [y] := by
  rcases List.eq_nil_or_concat p with h | ⟨q, y, h⟩
  · exact .inl h
  · exact .inr ⟨q, y, by rw [h, List.concat_eq_append]⟩
theorem loop_all {α : Type} (l : List α) (Q : List α → List α → Prop) (h0 : Q l []) (hs : ∀ p x s, l = p ++ x :: s → Q (p ++ [x]) s → Q p (x :: s)) : ∀ s p, l = p ++ s → Q p s := by
  intro s
  induction s with
  | nil => intro p hp; rw [List.append_nil] at hp; rw [← hp]; exact h0
  | cons x s ih => intro p hp; exact hs p x s hp (ih (p ++ [x]) (by simp [hp]))
def inR (a lo hi : Int) : Bool := decide (lo ≤ a) && decide (a ≤ hi)
theorem inR_iff {a lo hi : Int} : inR a lo hi = true ↔ lo ≤ a ∧ a ≤ hi := by simp [inR]
theorem l01In (a lo hi : Int) : spec_l01In.f a lo hi = some (inR a lo hi) := by
  unfold spec_l01In.f inR
  split
  · rename_i h; rw [decide_eq_true (show lo ≤ a from h), Bool.true_and]
  · rename_i h; rw [decide_eq_false (show ¬ lo ≤ a from h), Bool.false_and]
theorem inRange (a lo hi : Int) : impl_inRange.f a lo hi = some (inR a lo hi) := by
  unfold impl_inRange.f inR
  split
  · rename_i h; rw [decide_eq_true (show lo ≤ a from h), Bool.true_and]
  · rename_i h; rw [decide_eq_false (show ¬ lo ≤ a from h), Bool.false_and]
def okShop (x : S55) : Bool := inR x.f0 0 9 && (inR x.f1 0 100000 && inR x.f2 0 100000)
def shopB (a : Int) (l : List S55) : Bool := l.all okShop && (inR a 0 100000 && decide (l.length ≤ 7))
theorem spec_IsShop (a : Int) (l : List S55) (h : l.length ≤ 1048576) : Ev (fun k => spec_IsShop.f k a l) (shopB a l) := by
  refine loop_list l (fun p s => Ev (fun k => spec_IsShop.l0 k a l (p.length : Int)) (s.all okShop && (inR a 0 100000 && decide (l.length ≤ 7)))) ?_ ?_
  · refine Ev.step (fun k => by rw [spec_IsShop.l0]) ?_
    simp only [if_neg (nlt_self l), List.all_nil, Bool.true_and, l01In, Option.bind_some]
    cases inR a 0 100000 <;> simp <;> first | exact Ev.now _ | exact ev_eq (Ev.now _) (decide_eq_decide.2 (by omega))
  · intro p x s he ih
    refine Ev.step (fun k => by rw [spec_IsShop.l0]) ?_
    simp only [if_pos (mid_lt he), if_pos (nat_nn p.length), mid_next he (by omega), rd_T55, mid_get he, l01In, Option.bind_some, List.all_cons]
    cases h0 : inR x.f0 0 9 <;> cases h1 : inR x.f1 0 100000 <;> cases h2 : inR x.f2 0 100000 <;> simp [okShop, h0, h1, h2] <;> first | exact Ev.now _ | simpa [mid_next he (by omega)] using ih
theorem impl_IsShop_1_ok (x : S55) : impl_IsShop_1.f x.f0 x.f1 x.f2 = some (!(okShop x)) := by
  simp only [impl_IsShop_1.f, impl_isMinutes.f, inRange, Option.bind_some, okShop]
  cases inR x.f0 0 9 <;> cases inR x.f1 0 100000 <;> cases inR x.f2 0 100000 <;> rfl
theorem contains_impl_IsShop_1 (l : List S55) (h : l.length ≤ 1048576) : Ev (fun k => slices_ContainsFunc_at_impl_IsShop_1.f k l) (!(l.all okShop)) := by
  have H := loop_list l (fun p s => ∃ r, Ev (fun k => slices_IndexFunc_at_impl_IsShop_1.l0 k l (l.length : Int) (p.length : Int)) r ∧ decide (r ≥ 0) = !(s.all okShop)) ?_ ?_
  · obtain ⟨r, hr, e⟩ := H
    rw [← e]
    exact Ev.bind hr (Ev.now _)
  · refine ⟨-1, Ev.step (fun k => by rw [slices_IndexFunc_at_impl_IsShop_1.l0]) ?_, by simp⟩
    simp only [if_neg (nlt_self l)]
    exact Ev.now _
  · rintro p x s he ⟨r, ih, e⟩
    by_cases hx : okShop x = true
    · refine ⟨r, Ev.step (fun k => by rw [slices_IndexFunc_at_impl_IsShop_1.l0]) ?_, by rw [e]; simp [hx]⟩
      simp only [if_pos (mid_lt he), if_pos (nat_nn p.length), rd_T55, mid_get he, impl_IsShop_1_ok, hx, Option.bind_some, mid_next he (by omega)]
      exact ih
    · refine ⟨(p.length : Int), Ev.step (fun k => by rw [slices_IndexFunc_at_impl_IsShop_1.l0]) ?_, by simp [hx]⟩
      simp only [if_pos (mid_lt he), if_pos (nat_nn p.length), rd_T55, mid_get he, impl_IsShop_1_ok, Bool.eq_false_iff.2 hx, Option.bind_some]
      exact Ev.now _
theorem impl_IsShop (a : Int) (l : List S55) (h : l.length ≤ 1048576) : Ev (fun k => impl_IsShop.f k a l) (shopB a l) := by
  simp only [impl_IsShop.f, impl_isMinutes.f, inRange, Option.bind_some, shopB]
  cases inR a 0 100000
  · simp only [Bool.false_eq_true, if_false, Bool.false_and, Bool.and_false]
    exact Ev.now _
  · by_cases hl : (l.length : Int) ≤ 7
    · simp only [if_pos hl, if_true]
      exact ev_eq (Ev.bind (contains_impl_IsShop_1 l h) (Ev.now _)) (by simp [show l.length ≤ 7 by omega])
    · simp only [if_neg hl, if_true]
      exact ev_eq (Ev.now _) (by simp [show ¬ l.length ≤ 7 by omega])

/-- Each number is in the range, and none comes twice. -/
def ordF (n : Int) (seen : List Int) : List Int → Bool
  | [] => true
  | x :: s => inR x 0 (n - 1) && (!(decide (x ∈ seen)) && ordF n (seen ++ [x]) s)
def orderB (l : List Int) : Bool := ordF (l.length : Int) [] l && decide (l.length ≤ 64)
theorem spec_has (l : List Int) (y : Int) (h : l.length ≤ 9000000000000000000) : Ev (fun k => spec_l01Has.f k l y) (decide (y ∈ l)) := by
  refine loop_list l (fun p s => Ev (fun k => spec_l01Has.l0 k l y (p.length : Int)) (decide (y ∈ s))) ?_ ?_
  · refine Ev.step (fun k => by rw [spec_l01Has.l0]) ?_
    simp only [if_neg (nlt_self l)]
    exact ev_eq (Ev.now _) (by simp)
  · intro p x s he ih
    refine Ev.step (fun k => by rw [spec_l01Has.l0]) ?_
    have hx : rd l (p.length : Int) = x := mid_get he 0
    simp only [if_pos (mid_lt he), if_pos (nat_nn p.length), hx, mid_next he (by omega)]
    by_cases e : x = y
    · simp only [if_pos e]
      exact ev_eq (Ev.now _) (by simp [e])
    · simp only [if_neg e]
      exact ev_eq ih (by simp [show ¬ y = x from fun h => e h.symm])
theorem spec_IsOrder (l : List Int) (h : l.length ≤ 1048576) : Ev (fun k => spec_IsOrder.f k l) (orderB l) := by
  refine loop_list l (fun p s => Ev (fun k => spec_IsOrder.l0 k l (p.length : Int)) (ordF (l.length : Int) p s && decide (l.length ≤ 64))) ?_ ?_
  · refine Ev.step (fun k => by rw [spec_IsOrder.l0]) ?_
    simp only [if_neg (nlt_self l), ordF, Bool.true_and]
    exact ev_eq (Ev.now _) (decide_eq_decide.2 (by omega))
  · intro p x s he ih
    refine Ev.step (fun k => by rw [spec_IsOrder.l0]) ?_
    have hx : rd l (p.length : Int) = x := mid_get he 0
    have hp := mid_lt he
    have ht : l.take ((p.length : Int).toNat) = p := by rw [he, Int.toNat_natCast]; simp
    simp only [if_pos hp, if_pos (nat_nn p.length), hx, w64 (x := (l.length : Int) - 1) (by omega) (by omega), l01In, Option.bind_some, if_pos (show (p.length : Int) ≤ (l.length : Int) by omega), ht, mid_next he (by omega), ordF]
    cases inR x 0 ((l.length : Int) - 1)
    · simp only [Bool.false_eq_true, if_false, Bool.false_and]
      exact Ev.now _
    · simp only [if_true, Bool.true_and]
      refine Ev.bind (spec_has p x (by omega)) ?_
      cases decide (x ∈ p)
      · simp only [Bool.false_eq_true, if_false, Bool.not_false, Bool.true_and]
        exact ih
      · simp only [if_true, Bool.not_true, Bool.false_and]
        exact Ev.now _
theorem impl_IsOrder (l : List Int) (h : l.length ≤ 1048576) : Ev (fun k => impl_IsOrder.f k l) (orderB l) := by
  simp only [impl_IsOrder.f]
  by_cases hl : (l.length : Int) > 64
  · simp only [if_pos hl]
    exact ev_eq (Ev.now _) (by simp [orderB, show ¬ l.length ≤ 64 by omega])
  · simp only [if_neg hl, if_pos (nat_nn l.length), Int.toNat_natCast, if_pos (show l.length ≤ 281474976710656 by omega)]
    refine ev_eq (r := ordF (l.length : Int) [] l) ?_ (by simp [orderB, show l.length ≤ 64 by omega])
    refine loop_list l (fun p s => ∀ b : List Bool, b.length = l.length → (∀ v : Nat, v < l.length → b.getD v false = decide ((v : Int) ∈ p)) → Ev (fun k => impl_IsOrder.l0 k l b l (l.length : Int) (p.length : Int)) (ordF (l.length : Int) p s)) ?_ ?_ (List.replicate l.length false) (by simp) (by intro v hv; simp [List.getD_eq_getElem?_getD, List.getElem?_replicate, hv])
    · intro b hb hv
      refine Ev.step (fun k => by rw [impl_IsOrder.l0]) ?_
      simp only [if_neg (nlt_self l), ordF]
      exact Ev.now _
    · intro p x s he ih b hb hv
      refine Ev.step (fun k => by rw [impl_IsOrder.l0]) ?_
      have hx : rd l (p.length : Int) = x := mid_get he 0
      have hp := mid_lt he
      simp only [if_pos hp, if_pos (nat_nn p.length), hx, impl_length_int64.f, w64 (x := (l.length : Int) - 1) (by omega) (by omega), inRange, Option.bind_some, mid_next he (by omega), ordF]
      cases hr : inR x 0 ((l.length : Int) - 1)
      · simp only [Bool.false_eq_true, if_false, Bool.false_and]
        exact Ev.now _
      · obtain ⟨h0, h1⟩ := inR_iff.1 hr
        have hg : rdOf false b x = decide (x ∈ p) := by
          have := hv x.toNat (by omega)
          rw [show ((x.toNat : Nat) : Int) = x by omega] at this
          rw [← this]
          rfl
        simp only [if_true, Bool.true_and, if_pos h0, if_pos (show x < (b.length : Int) by omega), hg]
        cases hd : decide (x ∈ p)
        · simp only [Bool.false_eq_true, if_false, Bool.not_false, Bool.true_and]
          refine ih (b.set x.toNat true) (by simpa using hb) (fun v hv' => ?_)
          have := hv v hv'
          simp only [List.getD_eq_getElem?_getD, List.getElem?_set, hb] at this ⊢
          by_cases e : x.toNat = v
          · simp [e, hv', show (v : Int) = x by omega]
          · simp only [if_neg e, List.mem_append, List.mem_singleton, this]
            simp [show ¬ (v : Int) = x by omega]
        · simp only [if_true, Bool.not_true, Bool.false_and]
          exact Ev.now _
theorem ordF_mem {n : Int} : ∀ (s seen : List Int), ordF n seen s = true → ∀ x ∈ s, 0 ≤ x ∧ x < n := by
  intro s
  induction s with
  | nil => intro seen _ x hx; cases hx
  | cons y s ih =>
    intro seen h x hx
    simp only [ordF, Bool.and_eq_true, inR_iff] at h
    rcases List.mem_cons.1 hx with rfl | hx
    · omega
    · exact ih _ h.2.2 x hx
theorem orderB_mem {l : List Int} (h : orderB l = true) {x : Int} (hx : x ∈ l) : 0 ≤ x ∧ x < (l.length : Int) := by
  simp only [orderB, Bool.and_eq_true] at h
  exact ordF_mem _ _ h.1 x hx
def shopCode (a : Int) (l : List S55) (o : List Int) : Int := if shopB a l = true then (if orderB o = true then (if (o.length : Int) = (l.length : Int) then 0 else 2) else 2) else 1
theorem spec_shopCode (a : Int) (l : List S55) (o : List Int) (h : l.length ≤ 1048576) (ho : o.length ≤ 1048576) : Ev (fun k => spec_l20Code.f k a l o) (shopCode a l o) := by
  simp only [spec_l20Code.f]
  refine Ev.bind (spec_IsShop a l h) ?_
  cases h1 : shopB a l
  · simp only [Bool.false_eq_true, if_false]
    exact ev_eq (Ev.now _) (by simp [shopCode, h1])
  · simp only [if_true]
    refine Ev.bind (spec_IsOrder o ho) ?_
    cases h2 : orderB o <;> simp only [Bool.false_eq_true, if_false, if_true]
    · exact ev_eq (Ev.now _) (by simp [shopCode, h1, h2])
    · by_cases h3 : (o.length : Int) = (l.length : Int)
      · simp only [if_pos h3]
        exact ev_eq (Ev.now _) (by simp only [shopCode, h1, h2, if_true, if_pos h3])
      · simp only [if_neg h3]
        exact ev_eq (Ev.now _) (by simp only [shopCode, h1, h2, if_true, if_neg h3])
theorem impl_shopCode (a : Int) (l : List S55) (o : List Int) (h : l.length ≤ 1048576) (ho : o.length ≤ 1048576) : Ev (fun k => impl_checkShop.f k a l o) (shopCode a l o) := by
  simp only [impl_checkShop.f]
  refine Ev.bind (impl_IsShop a l h) ?_
  cases h1 : shopB a l
  · simp only [Bool.false_eq_true, if_false]
    exact ev_eq (Ev.now _) (by simp [shopCode, h1])
  · simp only [if_true]
    refine Ev.bind (impl_IsOrder o ho) ?_
    cases h2 : orderB o <;> simp only [Bool.false_eq_true, if_false, if_true]
    · exact ev_eq (Ev.now _) (by simp [shopCode, h1, h2])
    · by_cases h3 : (o.length : Int) = (l.length : Int)
      · simp only [if_pos h3]
        exact ev_eq (Ev.now _) (by simp only [shopCode, h1, h2, if_true, if_pos h3])
      · simp only [if_neg h3]
        exact ev_eq (Ev.now _) (by simp only [shopCode, h1, h2, if_true, if_neg h3])
theorem shopCode_zero {a : Int} {l : List S55} {o : List Int} (h : shopCode a l o = 0) : shopB a l = true ∧ orderB o = true ∧ o.length = l.length ∧ l.length ≤ 7 := by
  unfold shopCode at h
  by_cases h1 : shopB a l = true <;> by_cases h2 : orderB o = true <;> by_cases h3 : (o.length : Int) = (l.length : Int) <;> simp [h1, h2, h3] at h
  refine ⟨h1, h2, by omega, ?_⟩
  simp only [shopB, Bool.and_eq_true, decide_eq_true_eq] at h1
  exact h1.2.2
theorem both_shopCode {α : Type} (a : Int) (l : List S55) (o : List Int) (h : l.length ≤ 1048576) (ho : o.length ≤ 1048576) (g g' : Nat → Option α) (e : Int → α) (hg : shopCode a l o = 0 → ∃ r, Ev g r ∧ Ev g' r) :
    ∃ r, Ev (fun k => (spec_l20Code.f k a l o).bind fun c => if c = 0 then g k else some (e c)) r ∧ Ev (fun k => (impl_checkShop.f k a l o).bind fun c => if c = 0 then g' k else some (e c)) r := by
  by_cases hc : shopCode a l o = 0
  · obtain ⟨r, h1, h2⟩ := hg hc
    refine ⟨r, Ev.bind (spec_shopCode a l o h ho) ?_, Ev.bind (impl_shopCode a l o h ho) ?_⟩ <;> simp only [if_pos hc]
    · exact h1
    · exact h2
  · refine ⟨e (shopCode a l o), Ev.bind (spec_shopCode a l o h ho) ?_, Ev.bind (impl_shopCode a l o h ho) ?_⟩ <;> simp only [if_neg hc] <;> exact Ev.now _
theorem both_work (a : Int) (l : List S55) (o : List Int) (hl7 : l.length ≤ 7) (hol : o.length = l.length) (hb : ∀ x ∈ o, 0 ≤ x ∧ x < (l.length : Int)) : ∃ r, Ev (fun k => spec_l20Done.f k a l o) r ∧ Ev (fun k => impl_work.f k a l o) r ∧ r.1.length = l.length := by
  simp only [spec_l20Done.f, impl_work.f, if_pos (nat_nn l.length), Int.toNat_natCast, if_pos (show l.length ≤ 35184372088832 by omega)]
  refine loop_list o (fun p s => ∀ (x8 : List Int) (x9 x10 x11 : Int), x8.length = l.length → ∃ r, Ev (fun k => spec_l20Done.l0 k a l o x8 x9 x10 x11 (p.length : Int)) r ∧ Ev (fun k => impl_work.l0 k a l x8 x9 x10 x11 o (o.length : Int) (p.length : Int)) r ∧ r.1.length = l.length) ?_ ?_ (List.replicate l.length 0) 0 (-1) 0 (by simp)
  · intro x8 x9 x10 x11 h8
    refine ⟨(x8, x11), Ev.step (fun k => by rw [spec_l20Done.l0]) ?_, Ev.step (fun k => by rw [impl_work.l0]) ?_, h8⟩ <;> simp only [if_neg (nlt_self o)] <;> exact Ev.now _
  · intro p x s he ih x8 x9 x10 x11 h8
    have hx : rd o (p.length : Int) = x := mid_get he 0
    have hr := hb x (by rw [he]; simp)
    by_cases hf : (rd_T55 l x).f0 = x10
    · obtain ⟨r, h1, h2, h3⟩ := ih (x8.set x.toNat (wrap64 (x9 + (rd_T55 l x).f1))) (wrap64 (x9 + (rd_T55 l x).f1)) x10 x11 (by simpa using h8)
      refine ⟨r, Ev.step (fun k => by rw [spec_l20Done.l0]) ?_, Ev.step (fun k => by rw [impl_work.l0]) ?_, h3⟩ <;> simp only [if_pos (mid_lt he), if_pos (nat_nn p.length), hx, if_pos hr.1, if_pos (show x < (l.length : Int) by omega), if_pos (show x < (x8.length : Int) by omega), if_pos hf, mid_next he (by omega)]
      · rw [hf]; exact h1
      · exact h2
    · obtain ⟨r, h1, h2, h3⟩ := ih (x8.set x.toNat (wrap64 (wrap64 (x9 + a) + (rd_T55 l x).f1))) (wrap64 (wrap64 (x9 + a) + (rd_T55 l x).f1)) (rd_T55 l x).f0 (wrap64 (x11 + 1)) (by simpa using h8)
      refine ⟨r, Ev.step (fun k => by rw [spec_l20Done.l0]) ?_, Ev.step (fun k => by rw [impl_work.l0]) ?_, h3⟩ <;> simp only [if_pos (mid_lt he), if_pos (nat_nn p.length), hx, if_pos hr.1, if_pos (show x < (l.length : Int) by omega), if_pos (show x < (x8.length : Int) by omega), if_neg hf, mid_next he (by omega)]
      · exact h1
      · exact h2
theorem both_works {a : Int} {l : List S55} {o : List Int} (hc : shopCode a l o = 0) : ∃ r, Ev (fun k => spec_l20Done.f k a l o) r ∧ Ev (fun k => impl_work.f k a l o) r ∧ r.1.length = l.length := by
  obtain ⟨_, hb, hol, hl7⟩ := shopCode_zero hc
  exact both_work a l o hl7 hol (fun x hx => by rw [← hol]; exact orderB_mem hb hx)
theorem max_cons (y : Int) (t : List Int) (h : (y :: t).length ≤ 1048576) : Ev (fun k => slices_Max__int64_int64.f k (y :: t)) (t.foldl mx y) := by
  have H := loop_all (y :: t) (fun p s => ∀ acc, Ev (fun k => slices_Max__int64_int64.l0 k (y :: t) acc (p.length : Int)) (s.foldl mx acc)) ?_ ?_ t [y] rfl y
  · have e1 : ¬ (((y :: t).length : Int) < 1) := by simp only [List.length_cons]; omega
    have e2 : 0 < ((y :: t).length : Int) := by simp only [List.length_cons]; omega
    simp only [slices_Max__int64_int64.f, if_neg e1, if_pos e2]
    exact H
  · intro acc
    refine Ev.step (fun k => by rw [slices_Max__int64_int64.l0]) ?_
    simp only [if_neg (nlt_self (y :: t)), List.foldl_nil]
    exact Ev.now _
  · intro p x s he ih acc
    refine Ev.step (fun k => by rw [slices_Max__int64_int64.l0]) ?_
    have hx : rd (y :: t) (p.length : Int) = x := mid_get he 0
    simp only [if_pos (mid_lt he), if_pos (nat_nn p.length), hx, mid_next he (by omega), List.foldl_cons]
    exact ih _
def lateF (d : List Int) : Nat → List S55 → List Int
  | _, [] => []
  | i, x :: s => wrap64 (rd d (i : Int) - x.f2) :: lateF d (i + 1) s
theorem lateF_length (d : List Int) : ∀ (s : List S55) i, (lateF d i s).length = s.length := by
  intro s
  induction s with
  | nil => intro i; rfl
  | cons x s ih => intro i; simp [lateF, ih]
/-- The lateness of the latest job. -/
def mostB (d : List Int) : List S55 → Int
  | [] => 0
  | x :: s => (lateF d 1 s).foldl mx (wrap64 (rd d 0 - x.f2))
theorem spec_late {a : Int} {l : List S55} {o : List Int} {r : List Int × Int} (hd : Ev (fun k => spec_l20Done.f k a l o) r) (hr : r.1.length = l.length) (h0 : 0 < l.length) (h7 : l.length ≤ 1048576) : Ev (fun k => spec_l20Late.f k a l o) (mostB r.1 l) := by
  simp only [spec_l20Late.f]
  refine Ev.bind hd ?_
  cases l with
  | nil => simp at h0
  | cons x s =>
    simp only [if_pos (show 0 < (r.1.length : Int) by omega), if_pos (show 0 < ((x :: s).length : Int) by omega)]
    have e : (rd_T55 (x :: s) 0).f2 = x.f2 := rfl
    rw [e]
    exact loop_all (x :: s) (fun p t => ∀ acc, Ev (fun k => spec_l20Late.l0 k (x :: s) r.1 acc (p.length : Int)) ((lateF r.1 p.length t).foldl mx acc)) (by
      intro acc
      refine Ev.step (fun k => by rw [spec_l20Late.l0]) ?_
      simp only [if_neg (nlt_self (x :: s)), lateF, List.foldl_nil]
      exact Ev.now _) (by
      intro p y t he ih acc
      have hp := mid_lt he
      refine Ev.step (fun k => by rw [spec_l20Late.l0]) ?_
      simp only [if_pos hp, if_pos (nat_nn p.length), if_pos (show (p.length : Int) < (r.1.length : Int) by omega), rd_T55, mid_get he, mid_next he (by omega), lateF, List.foldl_cons]
      have := ih (mx acc (wrap64 (rd r.1 (p.length : Int) - y.f2)))
      rw [show (p ++ [y]).length = p.length + 1 by simp] at this ⊢
      exact this) s [x] rfl _
theorem impl_late {a : Int} {l : List S55} {o : List Int} {r : List Int × Int} (hd : Ev (fun k => impl_work.f k a l o) r) (hr : r.1.length = l.length) (h0 : 0 < l.length) (h7 : l.length ≤ 1048576) : Ev (fun k => impl_mostLate.f k a l o) (mostB r.1 l) := by
  simp only [impl_mostLate.f]
  refine Ev.bind hd ?_
  have H := loop_list l (fun p t => ∀ acc : List Int, acc.length = p.length → Ev (fun k => slices_Max__int64_int64.f k (acc ++ lateF r.1 p.length t)) (mostB r.1 l) → Ev (fun k => impl_mostLate.l0 k l acc r.1 (r.1.length : Int) (p.length : Int)) (mostB r.1 l)) ?_ ?_ [] rfl ?_
  · exact H
  · intro acc ha hm
    refine Ev.step (fun k => by rw [impl_mostLate.l0]) ?_
    simp only [if_neg (show ¬ (l.length : Int) < (r.1.length : Int) by omega)]
    simp only [lateF, List.append_nil] at hm
    exact Ev.bind hm (Ev.now _)
  · intro p y t he ih acc ha hm
    have hp := mid_lt he
    refine Ev.step (fun k => by rw [impl_mostLate.l0]) ?_
    simp only [if_pos hp, if_pos (nat_nn p.length), if_pos (show (p.length : Int) < (r.1.length : Int) by omega), rd_T55, mid_get he, mid_next he (by omega), if_pos (show acc.length < 17592186044416 by omega)]
    refine ih _ (by simp [ha]) ?_
    simp only [lateF] at hm
    rw [show (p ++ [y]).length = p.length + 1 by simp]
    simpa using hm
  · cases l with
    | nil => simp at h0
    | cons x s =>
      simp only [List.nil_append, lateF, mostB]
      exact max_cons _ _ (by simp only [List.length_cons, lateF_length] at h7 ⊢; omega)
theorem both_MostLate (a : Int) (l : List S55) (o : List Int) (h : l.length ≤ 1048576) (ho : o.length ≤ 1048576) : ∃ r, Ev (fun k => spec_MostLate.f k a l o) r ∧ Ev (fun k => impl_MostLate.f k a l o) r := by
  simp only [spec_MostLate.f, impl_MostLate.f]
  by_cases hc : shopCode a l o = 0
  · by_cases h0 : l.length = 0
    · refine ⟨(0, 4), Ev.bind (spec_shopCode a l o h ho) ?_, Ev.bind (impl_shopCode a l o h ho) ?_⟩
      · simp only [if_pos hc, h0]
        exact Ev.step (fun k => by rw [spec_MostLate.j0, if_pos (by decide)]) (Ev.now _)
      · simp only [if_pos hc, if_pos (show (l.length : Int) = 0 by omega)]
        exact Ev.now _
    · obtain ⟨r, h1, h2, h3⟩ := both_works hc
      refine ⟨(mostB r.1 l, 0), Ev.bind (spec_shopCode a l o h ho) ?_, Ev.bind (impl_shopCode a l o h ho) ?_⟩
      · have e : ((l.length : Int) == 0) = false := beq_eq_false_iff_ne.2 (by omega)
        simp only [if_pos hc, hc, e]
        refine Ev.step (fun k => by rw [spec_MostLate.j0, if_neg (show ¬ (false = true) by decide), if_pos rfl]) ?_
        exact Ev.bind (spec_late h1 h3 (by omega) h) (Ev.now _)
      · simp only [if_pos hc, if_neg (show ¬ (l.length : Int) = 0 by omega)]
        exact Ev.bind (impl_late h2 h3 (by omega) h) (Ev.now _)
  · refine ⟨(0, shopCode a l o), Ev.bind (spec_shopCode a l o h ho) ?_, Ev.bind (impl_shopCode a l o h ho) ?_⟩
    · simp only [if_neg hc]
      refine Ev.step (fun k => by rw [spec_MostLate.j0, if_neg (show ¬ (false = true) by decide), if_neg hc]) (Ev.now _)
    · simp only [if_neg hc]
      exact Ev.now _
def sumI (f : Int → Int) : List Int → Int
  | [] => 0
  | x :: s => f x + sumI f s
def sumN (f : Int → Int) : Nat → Int
  | 0 => 0
  | n + 1 => sumN f n + f (n : Int)
theorem sumI_perm (f : Int → Int) {a b : List Int} (h : a.Perm b) : sumI f a = sumI f b := by
  induction h with
  | nil => rfl
  | cons x _ ih => simp only [sumI, ih]
  | swap x y l => simp only [sumI]; omega
  | trans _ _ h1 h2 => rw [h1, h2]
theorem sumI_snoc (f : Int → Int) (a : List Int) (x : Int) : sumI f (a ++ [x]) = sumI f a + f x := by
  induction a with
  | nil => simp [sumI]
  | cons y a ih => simp only [List.cons_append, sumI, ih]; omega
theorem ordF_nodup {n : Int} : ∀ (s seen : List Int), ordF n seen s = true → s.Nodup ∧ ∀ x ∈ s, x ∉ seen := by
  intro s
  induction s with
  | nil => intro seen _; exact ⟨List.nodup_nil, fun x hx => by cases hx⟩
  | cons y s ih =>
    intro seen h
    simp only [ordF, Bool.and_eq_true, Bool.not_eq_true', decide_eq_false_iff_not] at h
    obtain ⟨h1, h2⟩ := ih _ h.2.2
    refine ⟨List.nodup_cons.2 ⟨fun hy => h2 y hy (by simp), h1⟩, fun x hx => ?_⟩
    rcases List.mem_cons.1 hx with rfl | hx
    · exact h.2.1
    · intro hs; exact h2 x hx (by simp [hs])
theorem orderB_nodup {l : List Int} (h : orderB l = true) : l.Nodup := by
  simp only [orderB, Bool.and_eq_true] at h
  exact (ordF_nodup _ _ h.1).1
theorem nodup_short : ∀ (n : Nat) (o : List Int), o.Nodup → (∀ x ∈ o, 0 ≤ x ∧ x < (n : Int)) → o.length ≤ n := by
  intro n
  induction n with
  | zero =>
    intro o _ h
    cases o with
    | nil => simp
    | cons x o => have := h x (by simp); omega
  | succ n ih =>
    intro o hn h
    have h1 := ih (o.erase (n : Int)) (hn.erase _) (fun x hx => by
      have h1 := h x (List.mem_of_mem_erase hx)
      have h2 : x ≠ (n : Int) := fun e => by subst e; exact hn.not_mem_erase hx
      omega)
    have h2 := List.length_erase (a := (n : Int)) (l := o)
    split at h2 <;> omega
theorem sum_order : ∀ (n : Nat) (o : List Int) (f : Int → Int), o.Nodup → (∀ x ∈ o, 0 ≤ x ∧ x < (n : Int)) → o.length = n → sumI f o = sumN f n := by
  intro n
  induction n with
  | zero =>
    intro o f _ _ hl
    rw [List.eq_nil_of_length_eq_zero hl]
    rfl
  | succ n ih =>
    intro o f hn h hl
    have hm : (n : Int) ∈ o := by
      apply Decidable.byContradiction
      intro hm
      have := nodup_short n o hn (fun x hx => by
        have h1 := h x hx
        have h2 : x ≠ (n : Int) := fun e => by subst e; exact hm hx
        omega)
      omega
    rw [sumI_perm f (List.perm_cons_erase hm)]
    have := ih (o.erase (n : Int)) f (hn.erase _) (fun x hx => by
      have h1 := h x (List.mem_of_mem_erase hx)
      have h2 : x ≠ (n : Int) := fun e => by subst e; exact hn.not_mem_erase hx
      omega) (by rw [List.length_erase_of_mem hm]; omega)
    simp only [sumI, sumN, this]
    omega
/-- A source that stands somewhere in its code. -/
def Src (c : List Int) (a s : Int) : Prop := (∀ x ∈ c, 0 ≤ x ∧ x ≤ 255) ∧ c.length ≤ 4096 ∧ 0 ≤ a ∧ a ≤ (c.length : Int) ∧ 0 ≤ s ∧ s < 2147483647
theorem rd_byte {c : List Int} (h : ∀ x ∈ c, 0 ≤ x ∧ x ≤ 255) (i : Int) : 0 ≤ rd c i ∧ rd c i ≤ 255 := by
  unfold rd
  rw [List.getD_eq_getElem?_getD]
  cases e : c[i.toNat]? with
  | none => simp
  | some v => exact h v (List.mem_of_getElem? e)
theorem tmod_range {x n : Int} (hx : 0 ≤ x) (hn : 1 < n) : 0 ≤ Int.tmod x n ∧ Int.tmod x n < n := by
  rw [Int.tmod_eq_emod_of_nonneg hx]
  exact ⟨Int.emod_nonneg _ (by omega), Int.emod_lt_of_pos _ (by omega)⟩
theorem seed_step {s : Int} (h0 : 0 ≤ s) (h1 : s < 2147483647) : 0 ≤ Int.tmod (wrap64 ((wrap64 (s * 48271)) + 61)) 2147483647 ∧ Int.tmod (wrap64 ((wrap64 (s * 48271)) + 61)) 2147483647 < 2147483647 := by
  rw [w64 (x := s * 48271) (by omega) (by omega), w64 (by omega) (by omega)]
  exact tmod_range (by omega) (by omega)
theorem draw_next {c : List Int} {a s : Int} (h : Src c a s) (n : Int) : ∃ v a' s', spec_l01Next.f c a s n = some (v, a', s') ∧ Src c a' s' ∧ (n ≤ 1 → v = 0) ∧ (1 < n → 0 ≤ v ∧ v < n) := by
  obtain ⟨hb, hl, ha, ha1, hs, hs1⟩ := h
  by_cases hn : n ≤ 1
  · exact ⟨0, a, s, by simp only [spec_l01Next.f, if_pos hn], ⟨hb, hl, ha, ha1, hs, hs1⟩, fun _ => rfl, fun h => by omega⟩
  · have hn0 : ¬ n = 0 := by omega
    obtain ⟨k0, k1⟩ := seed_step hs hs1
    generalize hk : Int.tmod (wrap64 ((wrap64 (s * 48271)) + 61)) 2147483647 = t at k0 k1
    have hx : Int.tdiv t 31 = t / 31 := Int.tdiv_eq_ediv_of_nonneg k0
    have hx1 : wrap64 (t / 31) = t / 31 := w64 (by omega) (by omega)
    by_cases hlt : a < (c.length : Int)
    · have e1 : wrap64 (a + 1) = a + 1 := w64 (by omega) (by omega)
      have e2 : wrap64 (a + 1 - 1) = a := by rw [show a + 1 - 1 = a by omega]; exact w64 (by omega) (by omega)
      obtain ⟨b0, b1⟩ := rd_byte hb a
      have e3 : wrap64 (rd c a) = rd c a := w64 (by omega) (by omega)
      have e4 : wrap64 (t / 31 + rd c a) = t / 31 + rd c a := w64 (by omega) (by omega)
      have hS : Src c (a + 1) t := ⟨hb, hl, by omega, by omega, k0, k1⟩
      by_cases h256 : n ≤ 256
      · by_cases he : Int.tmod (a + 1) 2 = 0
        · refine ⟨Int.tmod (rd c a) n, a + 1, t, ?_, hS, fun h => by omega, fun h => tmod_range b0 h⟩
          simp only [spec_l01Next.f, if_neg hn, if_pos hlt, if_pos ha, if_pos h256, e1, e2, e3, hk, if_pos he, if_neg hn0]
        · refine ⟨Int.tmod (t / 31 + rd c a) n, a + 1, t, ?_, hS, fun h => by omega, fun h => tmod_range (by omega) h⟩
          simp only [spec_l01Next.f, if_neg hn, if_pos hlt, if_pos ha, if_pos h256, e1, e2, e3, e4, hk, hx, hx1, if_neg he, if_neg hn0]
      · refine ⟨Int.tmod (t / 31 + rd c a) n, a + 1, t, ?_, hS, fun h => by omega, fun h => tmod_range (by omega) h⟩
        simp only [spec_l01Next.f, if_neg hn, if_pos hlt, if_pos ha, if_neg h256, e1, e3, e4, hk, hx, hx1, if_neg hn0]
    · refine ⟨Int.tmod (t / 31) n, a, t, ?_, ⟨hb, hl, ha, ha1, k0, k1⟩, fun h => by omega, fun h => tmod_range (by omega) h⟩
      simp only [spec_l01Next.f, if_neg hn, if_neg hlt, hk, hx, hx1, if_neg hn0]
theorem draw_pick {c : List Int} {a s : Int} (h : Src c a s) (l : List Int) (h0 : 0 < l.length) (h1 : l.length ≤ 1000) : ∃ v a' s', spec_l01Pick.f c a s l = some (v, a', s') ∧ Src c a' s' ∧ v ∈ l := by
  obtain ⟨v, a', s', e, hS, hv0, hv1⟩ := draw_next h (l.length : Int)
  have hv : 0 ≤ v ∧ v < (l.length : Int) := by
    by_cases hn : (l.length : Int) ≤ 1
    · have := hv0 hn; omega
    · exact hv1 (by omega)
  refine ⟨rd l v, a', s', by simp only [spec_l01Pick.f, e, Option.bind_some, if_pos hv.1, if_pos hv.2], hS, ?_⟩
  have : v.toNat < l.length := by omega
  unfold rd
  rw [List.getD_eq_getElem?_getD, List.getElem?_eq_getElem this]
  exact List.getElem_mem this
theorem draw_from (c : List Int) (hb : ∀ x ∈ c, (Lit.int .u8 x).wf = true) (hl : c.length ≤ 4096) : ∃ s, Ev (fun k => spec_l01From.f k c) (c, 0, s) ∧ Src c 0 s := by
  have hb' : ∀ x ∈ c, 0 ≤ x ∧ x ≤ 255 := by
    intro x hx
    have := hb x hx
    simp only [Lit.wf, IntKind.min, IntKind.max, IntKind.signed, IntKind.bits, Bool.and_eq_true, decide_eq_true_eq] at this
    simp at this
    omega
  have H := loop_list c (fun p t => ∀ s, 0 ≤ s → s < 2147483647 → ∃ s', Ev (fun k => spec_l01From.l0 k c (p.length : Int) c 0 s) (c, 0, s') ∧ 0 ≤ s' ∧ s' < 2147483647) ?_ ?_ 88007 (by omega) (by omega)
  · obtain ⟨s', h, h0, h1⟩ := H
    exact ⟨s', h, hb', hl, by omega, by omega, h0, h1⟩
  · intro s h0 h1
    refine ⟨s, Ev.step (fun k => by rw [spec_l01From.l0]) ?_, h0, h1⟩
    simp only [if_neg (nlt_self c)]
    exact Ev.now _
  · intro p x t he ih s h0 h1
    by_cases h64 : (p.length : Int) < 64
    · have hx : rd c (p.length : Int) = x := mid_get he 0
      obtain ⟨b0, b1⟩ := hb' x (by rw [he]; simp)
      have e : wrap64 (wrap64 (s * 71) + wrap64 x) = s * 71 + x := by rw [w64 (x := s * 71) (by omega) (by omega), w64 (x := x) (by omega) (by omega), w64 (by omega) (by omega)]
      obtain ⟨k0, k1⟩ := tmod_range (x := s * 71 + x) (n := 2147483647) (by omega) (by omega)
      obtain ⟨s', h, g0, g1⟩ := ih (Int.tmod (s * 71 + x) 2147483647) k0 k1
      refine ⟨s', Ev.step (fun k => by rw [spec_l01From.l0]) ?_, g0, g1⟩
      simp only [if_pos (mid_lt he), if_pos h64, if_pos (nat_nn p.length), hx, e, mid_next he (by omega)]
      exact h
    · refine ⟨s, Ev.step (fun k => by rw [spec_l01From.l0]) ?_, h0, h1⟩
      simp only [if_pos (mid_lt he), if_neg h64]
      exact Ev.now _
theorem draw_of {c : List Int} : ∀ (d : Nat) (n : Int) (l : List Int) (a s : Int), n - (l.length : Int) ≤ d → n ≤ 1000 → Src c a s → ∃ r a' s', Ev (fun k => spec_l01DrawOf.l0 k n l (l.length : Int) c a s) (r, a', s') ∧ Src c a' s' ∧ (r.length : Int) ≤ (if (l.length : Int) < n then n else (l.length : Int)) := by
  intro d
  induction d with
  | zero =>
    intro n l a s hd hn h
    refine ⟨l, a, s, Ev.step (fun k => by rw [spec_l01DrawOf.l0]) ?_, h, by rw [if_neg (by omega)]; omega⟩
    simp only [if_neg (show ¬ (l.length : Int) < n by omega)]
    exact Ev.now _
  | succ d ih =>
    intro n l a s hd hn h
    by_cases hlt : (l.length : Int) < n
    · obtain ⟨v, a1, s1, e1, h1, hv0, hv1⟩ := draw_next h (wrap64 ((l.length : Int) + 1))
      have ew : wrap64 ((l.length : Int) + 1) = (l.length : Int) + 1 := w64 (by omega) (by omega)
      rw [ew] at e1 hv0 hv1
      have hv : 0 ≤ v ∧ v ≤ (l.length : Int) := by
        by_cases h2 : (l.length : Int) + 1 ≤ 1
        · have := hv0 h2; omega
        · have := hv1 (by omega); omega
      obtain ⟨r, a', s', hr, h', hl'⟩ := ih n (l.take v.toNat ++ [(l.length : Int)] ++ l.drop v.toNat) a1 s1 (by simp; omega) hn h1
      have el : ((l.take v.toNat ++ [(l.length : Int)] ++ l.drop v.toNat).length : Int) = (l.length : Int) + 1 := by simp; omega
      rw [el] at hr hl'
      refine ⟨r, a', s', Ev.step (fun k => by rw [spec_l01DrawOf.l0]) ?_, h', by rw [if_pos hlt]; split at hl' <;> omega⟩
      have c1 : ([] : List Int).length + (l.take v.toNat).length < 17592186044416 := by simp; omega
      have c2 : (l.take v.toNat).length + ([(l.length : Int)] : List Int).length < 17592186044416 := by simp; omega
      have c3 : (l.take v.toNat ++ [(l.length : Int)]).length + (l.drop v.toNat).length < 17592186044416 := by simp; omega
      simp only [if_pos hlt, ew, e1, Option.bind_some, if_pos hv.1, if_pos hv.2, spec_l01Own.f, if_pos c1, List.nil_append, if_pos c2, if_pos c3]
      exact hr
    · refine ⟨l, a, s, Ev.step (fun k => by rw [spec_l01DrawOf.l0]) ?_, h, by rw [if_neg hlt]; omega⟩
      simp only [if_neg hlt]
      exact Ev.now _
theorem draw_perm {c : List Int} {a s : Int} (h : Src c a s) (n : Int) (hn : n ≤ 1000) : ∃ r a' s', Ev (fun k => spec_l01DrawOf.f k c a s n) (r, a', s') ∧ Src c a' s' ∧ r.length ≤ 1000 := by
  obtain ⟨r, a', s', hr, h', hl⟩ := draw_of (c := c) (n - 0).toNat n [] a s (by simp; omega) hn h
  refine ⟨r, a', s', hr, h', ?_⟩
  simp at hl
  split at hl <;> omega
theorem draw_order {c : List Int} {a s : Int} (h : Src c a s) : ∃ r a' s', Ev (fun k => spec_l01DrawOrder.f k c a s) (r, a', s') ∧ Src c a' s' ∧ r.length ≤ 1001 := by
  obtain ⟨v1, a1, s1, e1, h1, m1⟩ := draw_pick h [6, 9, 14] (by decide) (by decide)
  obtain ⟨v2, a2, s2, e2, h2, m2, m2'⟩ := draw_next h1 v1
  have hv1 : v1 = 6 ∨ v1 = 9 ∨ v1 = 14 := by simpa using m1
  have hv2 := m2' (by omega)
  obtain ⟨r, a3, s3, e3, h3, l3⟩ := draw_perm h2 v2 (by omega)
  obtain ⟨v4, a4, s4, e4, h4, _⟩ := draw_next h3 24
  simp only [spec_l01DrawOrder.f, e1, e2, Option.bind_some]
  by_cases g0 : v4 = 0
  · obtain ⟨v5, a5, s5, e5, h5, _⟩ := draw_pick h4 [-1, 0, (r.length : Int), wrap64 ((r.length : Int) + 1)] (by simp) (by simp)
    refine ⟨r ++ [v5], a5, s5, Ev.bind e3 ?_, h5, by simp; omega⟩
    simp only [e4, Option.bind_some, if_pos g0, e5, if_pos (show r.length < 17592186044416 by omega)]
    exact Ev.now _
  · by_cases g1 : v4 = 1
    · obtain ⟨v5, a5, s5, e5, h5, _, m5⟩ := draw_next h4 2
      have := m5 (by omega)
      obtain ⟨r', a6, s6, e6, h6, l6⟩ := draw_perm h5 (wrap64 (64 + v5)) (by rw [w64 (by omega) (by omega)]; omega)
      refine ⟨r', a6, s6, Ev.bind e3 ?_, h6, by omega⟩
      simp only [e4, Option.bind_some, if_neg g0, if_pos g1, e5]
      refine Ev.bind e6 ?_
      exact Ev.now _
    · refine ⟨r, a4, s4, Ev.bind e3 ?_, h4, by omega⟩
      simp only [e4, Option.bind_some, if_neg g0, if_neg g1]
      exact Ev.now _
theorem likeInts (l : List Int) (h : l.length ≤ 9000000000000000000) : Ev (fun k => laws_likeInts.f k l l) true := by
  simp only [laws_likeInts.f, if_true]
  refine loop_list l (fun p s => Ev (fun k => laws_likeInts.l0 k l l (p.length : Int)) true) ?_ ?_
  · refine Ev.step (fun k => by rw [laws_likeInts.l0]) ?_
    simp only [if_neg (nlt_self l)]
    exact Ev.now _
  · intro p x s he ih
    refine Ev.step (fun k => by rw [laws_likeInts.l0]) ?_
    simp only [if_pos (mid_lt he), if_pos (nat_nn p.length), if_true, mid_next he (by omega)]
    exact ih
theorem draw_shop_l0 {c : List Int} : ∀ (d : Nat) (l : List S55) (n a s : Int), n ≤ d → l.length + d ≤ 5 → Src c a s → ∃ q r a' s', Ev (fun k => spec_l20Draw.l0 k l n c a s) (q, r, a', s') ∧ Src c a' s' ∧ r.length ≤ 8 := by
  intro d
  induction d with
  | zero =>
    intro l n a s hn hl h
    obtain ⟨v1, a1, s1, e1, h1, _⟩ := draw_next h 40
    by_cases g0 : v1 = 0
    · obtain ⟨v2, a2, s2, e2, h2, _⟩ := draw_pick h1 [-1, 9, 10] (by decide) (by decide)
      obtain ⟨v3, a3, s3, e3, h3, _⟩ := draw_pick h2 [-1, 0, 100000, 100001] (by decide) (by decide)
      obtain ⟨v4, a4, s4, e4, h4, _⟩ := draw_next h3 30
      obtain ⟨v5, a5, s5, e5, h5, _⟩ := draw_pick h4 [0, 10, v4] (by simp) (by simp)
      refine ⟨v5, l ++ [⟨v2, v3, 0⟩], a5, s5, Ev.step (fun k => by rw [spec_l20Draw.l0]) ?_, h5, by simp; omega⟩
      simp only [if_neg (show ¬ n > 0 by omega), e1, Option.bind_some, if_pos g0, e2, e3, if_pos (show l.length < 5864062014805 by omega), e4, e5]
      exact Ev.now _
    · by_cases g1 : v1 = 1
      · obtain ⟨v2, a2, s2, e2, h2, _⟩ := draw_pick h1 [-1, 100000, 100001] (by decide) (by decide)
        refine ⟨v2, l, a2, s2, Ev.step (fun k => by rw [spec_l20Draw.l0]) ?_, h2, by omega⟩
        simp only [if_neg (show ¬ n > 0 by omega), e1, Option.bind_some, if_neg g0, if_pos g1, e2]
        exact Ev.now _
      · by_cases g2 : v1 = 2
        · refine ⟨5, List.replicate 8 z55, a1, s1, Ev.step (fun k => by rw [spec_l20Draw.l0]) ?_, h1, by simp⟩
          simp only [if_neg (show ¬ n > 0 by omega), e1, Option.bind_some, if_neg g0, if_neg g1, if_pos g2]
          exact Ev.now _
        · obtain ⟨v2, a2, s2, e2, h2, _⟩ := draw_next h1 30
          obtain ⟨v3, a3, s3, e3, h3, _⟩ := draw_pick h2 [0, 10, v2] (by simp) (by simp)
          refine ⟨v3, l, a3, s3, Ev.step (fun k => by rw [spec_l20Draw.l0]) ?_, h3, by omega⟩
          simp only [if_neg (show ¬ n > 0 by omega), e1, Option.bind_some, if_neg g0, if_neg g1, if_neg g2, e2, e3]
          exact Ev.now _
  | succ d ih =>
    intro l n a s hn hl h
    by_cases hp : n > 0
    · obtain ⟨v1, a1, s1, e1, h1, _⟩ := draw_next h 3
      obtain ⟨v2, a2, s2, e2, h2, _⟩ := draw_next h1 40
      obtain ⟨v3, a3, s3, e3, h3, _⟩ := draw_next h2 120
      obtain ⟨q, r, a', s', hr, h', hl'⟩ := ih (l ++ [⟨v1, v2, v3⟩]) (wrap64 (n - 1)) a3 s3 (by rw [w64 (by omega) (by omega)]; omega) (by simp; omega) h3
      refine ⟨q, r, a', s', Ev.step (fun k => by rw [spec_l20Draw.l0]) ?_, h', hl'⟩
      simp only [if_pos hp, e1, e2, e3, Option.bind_some, if_pos (show l.length < 5864062014805 by omega)]
      exact hr
    · exact ih l n a s (by omega) (by omega) h
theorem draw_shop {c : List Int} {a s : Int} (h : Src c a s) : ∃ q l a' s', Ev (fun k => spec_l20Draw.f k c a s) (q, l, a', s') ∧ Src c a' s' ∧ l.length ≤ 8 := by
  obtain ⟨v1, a1, s1, e1, h1, m0, m1⟩ := draw_next h 6
  have := m1 (by omega)
  obtain ⟨q, l, a', s', hr, h', hl⟩ := draw_shop_l0 (c := c) 5 [] v1 a1 s1 (by omega) (by simp) h1
  refine ⟨q, l, a', s', ?_, h', hl⟩
  simp only [spec_l20Draw.f, e1, Option.bind_some]
  exact hr
theorem draw_done (c : List Int) (hb : ∀ x ∈ c, (Lit.int .u8 x).wf = true) (hl : c.length ≤ 4096) : ∃ q l o, Ev (fun k => spec_DrawDoneTimes.f k c) (q, l, o) ∧ l.length ≤ 8 ∧ o.length ≤ 1001 := by
  obtain ⟨s0, h0, hs0⟩ := draw_from c hb hl
  obtain ⟨q, l, a1, s1, h1, hs1, l1⟩ := draw_shop hs0
  obtain ⟨v2, a2, s2, e2, hs2, _⟩ := draw_next hs1 16
  simp only [spec_DrawDoneTimes.f, spec_l20DrawOrder.f]
  by_cases g : v2 = 0
  · obtain ⟨o, a3, s3, h3, hs3, l3⟩ := draw_order hs2
    refine ⟨q, l, o, Ev.bind h0 (Ev.bind (a := (q, l, o, a3, s3)) (Ev.bind h1 ?_) (Ev.now _)), l1, l3⟩
    simp only [e2, Option.bind_some, if_pos g]
    exact Ev.bind h3 (Ev.now _)
  · obtain ⟨o, a3, s3, h3, hs3, l3⟩ := draw_perm hs2 (l.length : Int) (by omega)
    refine ⟨q, l, o, Ev.bind h0 (Ev.bind (a := (q, l, o, a3, s3)) (Ev.bind h1 ?_) (Ev.now _)), l1, by omega⟩
    simp only [e2, Option.bind_some, if_neg g]
    exact Ev.bind h3 (Ev.now _)
/-- What the jobs take, by their numbers. -/
def minF (l : List S55) (i : Int) : Int := (rd_T55 l i).f1
theorem job_ok {a : Int} {l : List S55} (h : shopB a l = true) {i : Int} (h0 : 0 ≤ i) (h1 : i < (l.length : Int)) : 0 ≤ (rd_T55 l i).f0 ∧ 0 ≤ minF l i ∧ minF l i ≤ 100000 ∧ 0 ≤ (rd_T55 l i).f2 ∧ (rd_T55 l i).f2 ≤ 100000 := by
  simp only [shopB, Bool.and_eq_true, List.all_eq_true] at h
  have hm : rd_T55 l i ∈ l := by
    have : i.toNat < l.length := by omega
    unfold rd_T55
    rw [List.getD_eq_getElem?_getD, List.getElem?_eq_getElem this]
    exact List.getElem_mem this
  have := h.1 _ hm
  simp only [okShop, Bool.and_eq_true, inR_iff] at this
  unfold minF
  omega
theorem shop_a {a : Int} {l : List S55} (h : shopB a l = true) : 0 ≤ a ∧ a ≤ 100000 ∧ l.length ≤ 7 := by
  simp only [shopB, Bool.and_eq_true, inR_iff, decide_eq_true_eq] at h
  omega
theorem rd_set {d : List Int} {i : Nat} {x v : Int} (hi : i < d.length) (hx : 0 ≤ x) : rd (d.set x.toNat v) (i : Int) = if (i : Int) = x then v else rd d (i : Int) := by
  unfold rd
  simp only [List.getD_eq_getElem?_getD, Int.toNat_natCast, List.getElem?_set]
  by_cases e : x.toNat = i
  · rw [if_pos e, if_pos (show (i : Int) = x by omega), if_pos (show x.toNat < d.length by omega)]; simp
  · rw [if_neg e, if_neg (show ¬ (i : Int) = x by omega)]
theorem work_told {a : Int} {l : List S55} {o : List Int} (hc : shopCode a l o = 0) : ∃ d s, Ev (fun k => spec_l20Done.f k a l o) (d, s) ∧ Ev (fun k => impl_work.f k a l o) (d, s) ∧ d.length = l.length ∧
    0 ≤ s ∧ s ≤ (l.length : Int) ∧ (∀ i : Nat, i < l.length → 0 ≤ rd d (i : Int) ∧ rd d (i : Int) ≤ s * a + sumN (minF l) l.length) ∧ (0 < l.length → 1 ≤ s ∧ ∃ i : Nat, i < l.length ∧ rd d (i : Int) = s * a + sumN (minF l) l.length) ∧ 0 ≤ s * a ∧ s * a ≤ 700000 := by
  obtain ⟨hs, hb, hol, hl7⟩ := shopCode_zero hc
  obtain ⟨a0, a1, _⟩ := shop_a hs
  have hm : ∀ x ∈ o, 0 ≤ x ∧ x < (l.length : Int) := fun x hx => by rw [← hol]; exact orderB_mem hb hx
  have hsum : sumI (minF l) o = sumN (minF l) l.length := sum_order l.length o (minF l) (orderB_nodup hb) hm hol
  rw [← hsum]
  simp only [spec_l20Done.f, impl_work.f, if_pos (nat_nn l.length), Int.toNat_natCast, if_pos (show l.length ≤ 35184372088832 by omega)]
  refine loop_list o (fun p t => ∀ (x8 : List Int) (x9 x10 x11 : Int), x8.length = l.length → x9 = x11 * a + sumI (minF l) p → 0 ≤ x11 → x11 ≤ (p.length : Int) → 0 ≤ sumI (minF l) p → sumI (minF l) p ≤ 100000 * (p.length : Int) → (∀ i : Nat, i < l.length → 0 ≤ rd x8 (i : Int) ∧ rd x8 (i : Int) ≤ x9) → (p = [] ∧ x10 = -1 ∨ 1 ≤ x11 ∧ ∃ i : Nat, i < l.length ∧ rd x8 (i : Int) = x9) →
    ∃ d s, Ev (fun k => spec_l20Done.l0 k a l o x8 x9 x10 x11 (p.length : Int)) (d, s) ∧ Ev (fun k => impl_work.l0 k a l x8 x9 x10 x11 o (o.length : Int) (p.length : Int)) (d, s) ∧ d.length = l.length ∧
    0 ≤ s ∧ s ≤ (l.length : Int) ∧ (∀ i : Nat, i < l.length → 0 ≤ rd d (i : Int) ∧ rd d (i : Int) ≤ s * a + sumI (minF l) o) ∧ (0 < l.length → 1 ≤ s ∧ ∃ i : Nat, i < l.length ∧ rd d (i : Int) = s * a + sumI (minF l) o) ∧ 0 ≤ s * a ∧ s * a ≤ 700000) ?_ ?_ (List.replicate l.length 0) 0 (-1) 0 (by simp) (by simp [sumI]) (by omega) (by simp) (by simp [sumI]) (by simp [sumI]) ?_ (Or.inl ⟨rfl, rfl⟩)
  · intro x8 x9 x10 x11 h8 h9 k0 k1 k2 k3 hr hw
    have m0 := Int.mul_nonneg k0 a0
    have m1 := Int.mul_le_mul (show x11 ≤ 7 by omega) a1 a0 (by omega)
    refine ⟨x8, x11, Ev.step (fun k => by rw [spec_l20Done.l0]) ?_, Ev.step (fun k => by rw [impl_work.l0]) ?_, h8, k0, by omega, fun i hi => by rw [← h9]; exact hr i hi, fun h0 => ?_, m0, by omega⟩
    · simp only [if_neg (nlt_self o)]; exact Ev.now _
    · simp only [if_neg (nlt_self o)]; exact Ev.now _
    · rcases hw with ⟨hw, _⟩ | hw
      · rw [hw] at hol; simp at hol; omega
      · rw [← h9]; exact hw
  · intro p x t he ih x8 x9 x10 x11 h8 h9 k0 k1 k2 k3 hr hw
    have hx : rd o (p.length : Int) = x := mid_get he 0
    have hxr := hm x (by rw [he]; simp)
    obtain ⟨j0, j1, j2, _, _⟩ := job_ok hs hxr.1 hxr.2
    have hp := mid_lt he
    have m0 := Int.mul_nonneg k0 a0
    have m1 := Int.mul_le_mul (show x11 ≤ 7 by omega) a1 a0 (by omega)
    have ej : (rd_T55 l x).f1 = minF l x := rfl
    have hset : ∀ v : Int, x9 ≤ v → (∀ i : Nat, i < l.length → 0 ≤ rd (x8.set x.toNat v) (i : Int) ∧ rd (x8.set x.toNat v) (i : Int) ≤ v) ∧ ∃ i : Nat, i < l.length ∧ rd (x8.set x.toNat v) (i : Int) = v := by
      intro v hv
      refine ⟨fun i hi => ?_, x.toNat, by omega, ?_⟩
      · rw [rd_set (by omega) hxr.1]
        have := hr i hi
        split <;> omega
      · rw [rd_set (by omega) hxr.1, if_pos (by omega)]
    by_cases hf : (rd_T55 l x).f0 = x10
    · have h1 : 1 ≤ x11 := by
        rcases hw with ⟨_, hw⟩ | hw
        · omega
        · exact hw.1
      have e9 : wrap64 (x9 + (rd_T55 l x).f1) = x9 + minF l x := by rw [ej]; exact w64 (by omega) (by omega)
      obtain ⟨g1, g2⟩ := hset (x9 + minF l x) (by omega)
      obtain ⟨d, s, r1, r2, r3⟩ := ih (x8.set x.toNat (x9 + minF l x)) (x9 + minF l x) x10 x11 (by simpa using h8) (by rw [sumI_snoc]; omega) k0 (by simp; omega) (by rw [sumI_snoc]; omega) (by rw [sumI_snoc]; simp; omega) g1 (Or.inr ⟨h1, g2⟩)
      refine ⟨d, s, Ev.step (fun k => by rw [spec_l20Done.l0]) ?_, Ev.step (fun k => by rw [impl_work.l0]) ?_, r3⟩ <;> simp only [if_pos hp, if_pos (nat_nn p.length), hx, if_pos hxr.1, if_pos hxr.2, if_pos (show x < (x8.length : Int) by omega), if_pos hf, mid_next he (by omega), e9]
      · rw [hf]; exact r1
      · exact r2
    · have e8 : wrap64 (x9 + a) = x9 + a := w64 (by omega) (by omega)
      have e9 : wrap64 (x9 + a + (rd_T55 l x).f1) = x9 + a + minF l x := by rw [ej]; exact w64 (by omega) (by omega)
      have e11 : wrap64 (x11 + 1) = x11 + 1 := w64 (by omega) (by omega)
      obtain ⟨g1, g2⟩ := hset (x9 + a + minF l x) (by omega)
      obtain ⟨d, s, r1, r2, r3⟩ := ih (x8.set x.toNat (x9 + a + minF l x)) (x9 + a + minF l x) (rd_T55 l x).f0 (x11 + 1) (by simpa using h8) (by rw [sumI_snoc, Int.add_mul, Int.one_mul]; omega) (by omega) (by simp; omega) (by rw [sumI_snoc]; omega) (by rw [sumI_snoc]; simp; omega) g1 (Or.inr ⟨by omega, g2⟩)
      refine ⟨d, s, Ev.step (fun k => by rw [spec_l20Done.l0]) ?_, Ev.step (fun k => by rw [impl_work.l0]) ?_, r3⟩ <;> simp only [if_pos hp, if_pos (nat_nn p.length), hx, if_pos hxr.1, if_pos hxr.2, if_pos (show x < (x8.length : Int) by omega), if_neg hf, mid_next he (by omega), e8, e9, e11]
      · exact r1
      · exact r2
  · intro i hi
    have : rd (List.replicate l.length 0) (i : Int) = 0 := by
      unfold rd
      simp [List.getD_eq_getElem?_getD, hi]
    omega
/-- The sum of what is late. -/
def tardF (d : List Int) : Nat → List S55 → Int → Int
  | _, [], acc => acc
  | i, x :: s, acc => tardF d (i + 1) s (wrap64 (acc + mx 0 (wrap64 (rd d (i : Int) - x.f2))))
theorem tard_told {l : List S55} {d : List Int} (hd : d.length = l.length) (h : l.length ≤ 1048576) : Ev (fun k => spec_TotalTardiness.l0 k l d 0 0) (tardF d 0 l 0, 0) ∧ Ev (fun k => impl_TotalTardiness.l0 k l 0 d (d.length : Int) 0) (tardF d 0 l 0, 0) := by
  refine loop_list l (fun p s => ∀ acc, Ev (fun k => spec_TotalTardiness.l0 k l d acc (p.length : Int)) (tardF d p.length s acc, 0) ∧ Ev (fun k => impl_TotalTardiness.l0 k l acc d (d.length : Int) (p.length : Int)) (tardF d p.length s acc, 0)) ?_ ?_ 0
  · intro acc
    refine ⟨Ev.step (fun k => by rw [spec_TotalTardiness.l0]) ?_, Ev.step (fun k => by rw [impl_TotalTardiness.l0]) ?_⟩
    · simp only [if_neg (nlt_self l), tardF]
      exact Ev.now _
    · simp only [if_neg (show ¬ (l.length : Int) < (d.length : Int) by omega), tardF]
      exact Ev.now _
  · intro p x s he ih acc
    have hp := mid_lt he
    obtain ⟨g1, g2⟩ := ih (wrap64 (acc + mx 0 (wrap64 (rd d (p.length : Int) - x.f2))))
    rw [show (p ++ [x]).length = p.length + 1 by simp] at g1 g2
    have en : wrap64 ((p.length : Int) + 1) = ((p.length + 1 : Nat) : Int) := by rw [w64 (by omega) (by omega)]; omega
    refine ⟨Ev.step (fun k => by rw [spec_TotalTardiness.l0]) ?_, Ev.step (fun k => by rw [impl_TotalTardiness.l0]) ?_⟩ <;> simp only [if_pos hp, if_pos (nat_nn p.length), if_pos (show (p.length : Int) < (d.length : Int) by omega), rd_T55, mid_get he, en, tardF]
    · exact g1
    · exact g2
theorem foldl_mx_ge : ∀ (t : List Int) (acc : Int), acc ≤ t.foldl mx acc ∧ ∀ y ∈ t, y ≤ t.foldl mx acc := by
  intro t
  induction t with
  | nil => intro acc; exact ⟨Int.le_refl _, fun y hy => by cases hy⟩
  | cons z t ih =>
    intro acc
    obtain ⟨h1, h2⟩ := ih (mx acc z)
    have e : mx acc z = if acc < z then z else acc := rfl
    simp only [List.foldl_cons]
    refine ⟨by split at e <;> omega, fun y hy => ?_⟩
    rcases List.mem_cons.1 hy with rfl | hy
    · split at e <;> omega
    · exact h2 y hy
theorem lateF_mem (d : List Int) : ∀ (p : List S55) (x : S55) (s : List S55) (i : Nat), wrap64 (rd d ((i + p.length : Nat) : Int) - x.f2) ∈ lateF d i (p ++ x :: s) := by
  intro p
  induction p with
  | nil => intro x s i; simp [lateF]
  | cons y p ih =>
    intro x s i
    have := ih x s (i + 1)
    rw [show i + 1 + p.length = i + (y :: p).length by simp; omega] at this
    simp only [List.cons_append, lateF, List.mem_cons]
    exact Or.inr this
theorem most_ge (d : List Int) {l p s : List S55} {x : S55} (he : l = p ++ x :: s) : wrap64 (rd d (p.length : Int) - x.f2) ≤ mostB d l := by
  cases p with
  | nil =>
    simp only [List.nil_append] at he
    subst he
    simp only [mostB, List.length_nil]
    exact (foldl_mx_ge _ _).1
  | cons y p =>
    subst he
    simp only [List.cons_append, mostB]
    have := lateF_mem d p x s 1
    rw [show 1 + p.length = (y :: p).length by simp; omega] at this
    exact (foldl_mx_ge _ _).2 _ this
theorem done_loop {l : List S55} {d : List Int} {s a T : Int} (hd : d.length = l.length) (h7 : l.length ≤ 7) (hj : ∀ i : Nat, i < l.length → 0 ≤ minF l (i : Int) ∧ minF l (i : Int) ≤ 100000)
    (hr : ∀ i : Nat, i < l.length → 0 ≤ rd d (i : Int) ∧ rd d (i : Int) ≤ T) (hT : T = s * a + sumN (minF l) l.length) (hex : ∃ i : Nat, i < l.length ∧ rd d (i : Int) = T) (h1 : 1 ≤ s) (h2 : s ≤ (l.length : Int)) (hsa : 0 ≤ s * a) (hsa1 : s * a ≤ 700000) :
    Ev (fun k => laws_FnDone.l0 k l d s (tardF d 0 l 0) (mostB d l) 0 (wrap64 (s * a)) 0 0) true := by
  rw [w64 (by omega) (by omega)]
  refine loop_list l (fun p t => ∀ (x22 x23 x24 : Int), 0 ≤ x22 → x22 ≤ T → (∀ i : Nat, i < p.length → rd d (i : Int) ≤ x22) → x23 = s * a + sumN (minF l) p.length → 0 ≤ sumN (minF l) p.length → sumN (minF l) p.length ≤ 100000 * (p.length : Int) → tardF d p.length t x24 = tardF d 0 l 0 → Ev (fun k => laws_FnDone.l0 k l d s (tardF d 0 l 0) (mostB d l) x22 x23 x24 (p.length : Int)) true) ?_ ?_ 0 (s * a) 0 (by omega) ?_ (fun i hi => by simp at hi) (by simp [sumN]) (by simp [sumN]) (by simp [sumN]) rfl
  · intro x22 x23 x24 g0 g1 g2 g3 _ _ g4
    obtain ⟨i, hi, hi'⟩ := hex
    have := g2 i hi
    simp only [tardF] at g4
    refine Ev.step (fun k => by rw [laws_FnDone.l0]) ?_
    simp only [if_neg (nlt_self l), if_pos (show x22 = x23 by omega), if_pos g4, if_pos (show s ≥ 1 from h1), decide_eq_true h2]
    exact Ev.now _
  · intro p x t he ih x22 x23 x24 g0 g1 g2 g3 g5 g6 g4
    have hp := mid_lt he
    have hpn : p.length < l.length := by omega
    obtain ⟨r0, r1⟩ := hr p.length hpn
    obtain ⟨j0, j1⟩ := hj p.length hpn
    have hx : rd_T55 l (p.length : Int) = x := by unfold rd_T55; exact mid_get he _
    have hmf : minF l (p.length : Int) = x.f1 := by unfold minF; rw [hx]
    have em : mx x22 (rd d (p.length : Int)) = if x22 < rd d (p.length : Int) then rd d (p.length : Int) else x22 := rfl
    have es : sumN (minF l) (p ++ [x]).length = sumN (minF l) p.length + minF l (p.length : Int) := by
      rw [show (p ++ [x]).length = p.length + 1 by simp]; rfl
    have e23 : wrap64 (x23 + x.f1) = x23 + x.f1 := w64 (by omega) (by omega)
    have hlen : ((p ++ [x]).length : Int) = (p.length : Int) + 1 := by simp
    have := ih (mx x22 (rd d (p.length : Int))) (x23 + x.f1) (wrap64 (x24 + mx 0 (wrap64 (rd d (p.length : Int) - x.f2)))) (by rw [em]; split <;> omega) (by rw [em]; split <;> omega) (by
      intro i hi
      by_cases hi' : i < p.length
      · have := g2 i hi'
        rw [em]; split <;> omega
      · have : i = p.length := by simp at hi; omega
        subst this
        rw [em]; split <;> omega) (by rw [es, ← hmf]; omega) (by rw [es]; omega) (by rw [es, hlen]; omega) (by
      rw [← g4, show (p ++ [x]).length = p.length + 1 by simp]
      rfl)
    have hmost := most_ge d he
    refine Ev.step (fun k => by rw [laws_FnDone.l0]) ?_
    simp only [if_pos hp, if_pos (nat_nn p.length), if_pos (show (p.length : Int) < (d.length : Int) by omega), hx, if_neg (Int.not_lt.2 hmost : ¬ wrap64 (rd d (p.length : Int) - x.f2) > mostB d l), mid_next he (by omega), e23]
    exact this
  · obtain ⟨i, hi, hi'⟩ := hex
    have := hr i hi
    omega
theorem FnDone : laws_FnDone.Pure := by
  intro c hl hb
  refine Ev.rounds (g := fun k => laws_FnDone.f k c) ?_
  simp only [laws_FnDone.f, laws_big.f, Option.bind_some]
  by_cases hbig : (c.length : Int) > 4096
  · simp only [decide_eq_true hbig, if_true]
    exact Ev.now _
  simp only [decide_eq_false hbig, Bool.false_eq_true, if_false]
  obtain ⟨a, l, o, hdr, hl8, ho8⟩ := draw_done c hb (by omega)
  have hlm : l.length ≤ 1048576 := by omega
  have hom : o.length ≤ 1048576 := by omega
  obtain ⟨⟨q1, q2⟩, m1, m2⟩ := both_MostLate a l o hlm hom
  refine Ev.bind hdr ?_
  by_cases hc : shopCode a l o = 0
  · obtain ⟨hs, hbo, hol, hl7⟩ := shopCode_zero hc
    obtain ⟨d, s, w1, w2, hdl, s0, s1, hr, hex, sa0, sa1⟩ := work_told hc
    have cs : Ev (fun k => spec_l20Code.f k a l o) 0 := ev_eq (spec_shopCode a l o hlm hom) hc
    have ci : Ev (fun k => impl_checkShop.f k a l o) 0 := ev_eq (impl_shopCode a l o hlm hom) hc
    obtain ⟨t1, t2⟩ := tard_told hdl hlm
    refine Ev.bind (a := (d, 0)) (by simp only [impl_DoneTimes.f]; exact Ev.bind ci (by simp only [if_true]; exact Ev.bind w2 (Ev.now _))) ?_
    refine Ev.bind (a := (d, 0)) (by simp only [spec_DoneTimes.f]; exact Ev.bind cs (by simp only [if_true]; exact Ev.bind w1 (Ev.now _))) ?_
    refine Ev.bind (a := (s, 0)) (by simp only [impl_CountSetups.f]; exact Ev.bind ci (by simp only [if_true]; exact Ev.bind w2 (Ev.now _))) ?_
    refine Ev.bind (a := (s, 0)) (by simp only [spec_CountSetups.f]; exact Ev.bind cs (by simp only [if_true]; exact Ev.bind w1 (Ev.now _))) ?_
    refine Ev.bind (a := (tardF d 0 l 0, 0)) (by simp only [impl_TotalTardiness.f]; exact Ev.bind ci (by simp only [if_true]; exact Ev.bind w2 t2)) ?_
    refine Ev.bind (a := (tardF d 0 l 0, 0)) (by simp only [spec_TotalTardiness.f]; exact Ev.bind cs (by simp only [if_true]; exact Ev.bind w1 t1)) ?_
    by_cases h0 : l.length = 0
    · refine Ev.bind m2 ?_
      refine Ev.bind m1 ?_
      simp only [if_true]
      refine Ev.bind (likeInts d (by omega)) ?_
      simp only [if_true, bne_self_eq_false]
      refine Ev.step (fun k => by rw [laws_FnDone.j0]) ?_
      have e0 : ((l.length : Int) == 0) = true := beq_iff_eq.2 (by omega)
      simp only [Bool.false_eq_true, if_false, if_true, e0]
      refine Ev.step (fun k => by rw [laws_FnDone.j1]) ?_
      simp only [if_true]
      exact Ev.now _
    · have e0 : ((l.length : Int) == 0) = false := beq_eq_false_iff_ne.2 (by omega)
      refine Ev.bind (a := (mostB d l, 0)) (by
        simp only [impl_MostLate.f]
        exact Ev.bind ci (by
          simp only [if_true, if_neg (show ¬ (l.length : Int) = 0 by omega)]
          exact Ev.bind (impl_late w2 hdl (by omega) hlm) (Ev.now _))) ?_
      refine Ev.bind (a := (mostB d l, 0)) (by
        simp only [spec_MostLate.f]
        exact Ev.bind cs (by
          simp only [if_true, e0]
          refine Ev.step (fun k => by rw [spec_MostLate.j0, if_neg (show ¬ (false = true) by decide), if_pos rfl]) ?_
          exact Ev.bind (spec_late w1 hdl (by omega) hlm) (Ev.now _))) ?_
      simp only [if_true]
      refine Ev.bind (likeInts d (by omega)) ?_
      simp only [if_true, bne_self_eq_false]
      refine Ev.step (fun k => by rw [laws_FnDone.j0]) ?_
      simp only [Bool.false_eq_true, if_false, if_true, e0]
      refine Ev.step (fun k => by rw [laws_FnDone.j1]) ?_
      simp only [Bool.false_eq_true, if_false]
      obtain ⟨x1, x2⟩ := hex (by omega)
      exact done_loop hdl hl7 (fun i hi => by
        obtain ⟨_, b0, b1, _⟩ := job_ok hs (i := (i : Int)) (by omega) (by omega)
        exact ⟨b0, b1⟩) hr rfl x2 x1 s1 sa0 sa1
  · have cs := spec_shopCode a l o hlm hom
    have ci := impl_shopCode a l o hlm hom
    refine Ev.bind (a := (([] : List Int), shopCode a l o)) (by simp only [impl_DoneTimes.f]; exact Ev.bind ci (by simp only [if_neg hc]; exact Ev.now _)) ?_
    refine Ev.bind (a := (([] : List Int), shopCode a l o)) (by simp only [spec_DoneTimes.f]; exact Ev.bind cs (by simp only [if_neg hc]; exact Ev.now _)) ?_
    refine Ev.bind (a := ((0 : Int), shopCode a l o)) (by simp only [impl_CountSetups.f]; exact Ev.bind ci (by simp only [if_neg hc]; exact Ev.now _)) ?_
    refine Ev.bind (a := ((0 : Int), shopCode a l o)) (by simp only [spec_CountSetups.f]; exact Ev.bind cs (by simp only [if_neg hc]; exact Ev.now _)) ?_
    refine Ev.bind (a := ((0 : Int), shopCode a l o)) (by simp only [impl_TotalTardiness.f]; exact Ev.bind ci (by simp only [if_neg hc]; exact Ev.now _)) ?_
    refine Ev.bind (a := ((0 : Int), shopCode a l o)) (by simp only [spec_TotalTardiness.f]; exact Ev.bind cs (by simp only [if_neg hc]; exact Ev.now _)) ?_
    refine Ev.bind m2 ?_
    refine Ev.bind m1 ?_
    simp only [if_true]
    refine Ev.bind (likeInts [] (by simp)) ?_
    simp only [if_true, bne_self_eq_false]
    refine Ev.step (fun k => by rw [laws_FnDone.j0]) ?_
    simp only [Bool.false_eq_true, if_false, if_neg hc]
    refine Ev.step (fun k => by rw [laws_FnDone.j1]) ?_
    simp only [if_true]
    exact Ev.now _

end Go.Proofs.Ytefnoiajfjbbpaa.Pure
