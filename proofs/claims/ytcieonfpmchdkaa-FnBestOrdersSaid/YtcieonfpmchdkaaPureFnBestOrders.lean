/- The pure statement of law FnBestOrders: what the printed functions compute answers true at every input. No condition. -/
import Derived.Test.YtcieonfpmchdkaaPFnBestOrdersx15
set_option linter.unusedVariables false
set_option linter.unusedSimpArgs false
namespace Go.Proofs.Ytcieonfpmchdkaa.Pure
open Go.RowKit Go.Proofs.Ytcieonfpmchdkaa.PFnBestOrders Go.Proofs.YtcieonfpmchdkaaW.PrintWords Go.Proofs.YtcieonfpmchdkaaW.PrintLast Go.Proofs.YtcieonfpmchdkaaW.PrintMore


/-! #### Numbers and rounds -/
theorem w64 {x : Int} (h1 : -9223372036854775808 ≤ x) (h2 : x ≤ 9223372036854775807) : wrap64 x = x := by
  unfold wrap64
  omega
theorem ev_eq {α : Type} {g : Nat → Option α} {r r' : α} (h : Ev g r) (e : r = r') : Ev g r' := e ▸ h
/-- A loop over a list: what lies behind, what lies ahead. -/
theorem loop_list {α : Type} (l : List α) (Q : List α → List α → Prop) (h0 : Q l []) (hs : ∀ p x s, l = p ++ x :: s → Q (p ++ [x]) s → Q p (x :: s)) : Q [] l := by
  have h : ∀ s p, l = p ++ s → Q p s := by
    intro s
    induction s with
    | nil => intro p hp; rw [List.append_nil] at hp; rw [← hp]; exact h0
    | cons x s ih => intro p hp; exact hs p x s hp (ih (p ++ [x]) (by simp [hp]))
  exact h l [] rfl
theorem mid_lt {α : Type} {l p s : List α} {x : α} (h : l = p ++ x :: s) : (p.length : Int) < (l.length : Int) := by
  rw [h, List.length_append, List.length_cons]; omega
theorem mid_next {α : Type} {l p s : List α} {x : α} (h : l = p ++ x :: s) (hl : l.length ≤ 9223372036854775807) : wrap64 ((p.length : Int) + 1) = ((p ++ [x]).length : Int) := by
  have := mid_lt h
  rw [w64 (by omega) (by omega), List.length_append]; simp
theorem mid_get {α : Type} {l p s : List α} {x : α} (h : l = p ++ x :: s) (z : α) : l.getD (p.length : Int).toNat z = x := by
  rw [h]; simp
theorem get_mid {α : Type} (p s : List α) (x z : α) : (p ++ x :: s).getD (p.length : Int).toNat z = x := by simp
theorem nat_nn (n : Nat) : (0 : Int) ≤ (n : Int) := by omega
theorem nlt_self {α : Type} (l : List α) : ¬ ((l.length : Int) < (l.length : Int)) := by omega
theorem set_mid {α : Type} (p s : List α) (x y : α) : (p ++ x :: s).set ((p.length : Int).toNat) y = p ++ y :: s := by
  rw [Int.toNat_natCast, List.set_append_right _ _ (Nat.le_refl _)]; simp
theorem nil_or_snoc {α : Type} (p : List α) : p = [] ∨ ∃ q y, p = q ++ [y] := by
  rcases List.eq_nil_or_concat p with h | ⟨q, y, h⟩
  · exact .inl h
  · exact .inr ⟨q, y, by rw [h, List.concat_eq_append]⟩
theorem loop_all {α : Type} (l : List α) (Q : List α → List α → Prop) (h0 : Q l []) (hs : ∀ p x s, l = p ++ x :: s → Q (p ++ [x]) s → Q p (x :: s)) : ∀ s p, l = p ++ s → Q p s := by
  intro s
  induction s with
  | nil => intro p hp; rw [List.append_nil] at hp; rw [← hp]; exact h0
  | cons x s ih => intro p hp; exact hs p x s hp (ih (p ++ [x]) (by simp [hp]))
def inR (a lo hi : Int) : Bool := decide (lo ≤ a) && decide (a ≤ hi)
theorem inR_iff {a lo hi : Int} : inR a lo hi = true ↔ lo ≤ a ∧ a ≤ hi := by simp [inR]
theorem l01In (a lo hi : Int) : spec_l01In.f a lo hi = some (inR a lo hi) := by
  unfold spec_l01In.f inR
  split
  · rename_i h; rw [decide_eq_true (show lo ≤ a from h), Bool.true_and]
  · rename_i h; rw [decide_eq_false (show ¬ lo ≤ a from h), Bool.false_and]
theorem inRange (a lo hi : Int) : impl_inRange.f a lo hi = some (inR a lo hi) := by
  unfold impl_inRange.f inR
  split
  · rename_i h; rw [decide_eq_true (show lo ≤ a from h), Bool.true_and]
  · rename_i h; rw [decide_eq_false (show ¬ lo ≤ a from h), Bool.false_and]
def okShop (x : S56) : Bool := inR x.f0 0 9 && (inR x.f1 0 100000 && inR x.f2 0 100000)
def shopB (a : Int) (l : List S56) : Bool := l.all okShop && (inR a 0 100000 && decide (l.length ≤ 7))
theorem spec_IsShop (a : Int) (l : List S56) (h : l.length ≤ 1048576) : Ev (fun k => spec_IsShop.f k a l) (shopB a l) := by
  refine loop_list l (fun p s => Ev (fun k => spec_IsShop.l0 k a l (p.length : Int)) (s.all okShop && (inR a 0 100000 && decide (l.length ≤ 7)))) ?_ ?_
  · refine Ev.step (fun k => by rw [spec_IsShop.l0]) ?_
    simp only [if_neg (nlt_self l), List.all_nil, Bool.true_and, l01In, Option.bind_some]
    cases inR a 0 100000 <;> simp <;> first | exact Ev.now _ | exact ev_eq (Ev.now _) (decide_eq_decide.2 (by omega))
  · intro p x s he ih
    refine Ev.step (fun k => by rw [spec_IsShop.l0]) ?_
    simp only [if_pos (mid_lt he), if_pos (nat_nn p.length), mid_next he (by omega), rd_T56, mid_get he, l01In, Option.bind_some, List.all_cons]
    cases h0 : inR x.f0 0 9 <;> cases h1 : inR x.f1 0 100000 <;> cases h2 : inR x.f2 0 100000 <;> simp [okShop, h0, h1, h2] <;> first | exact Ev.now _ | simpa [mid_next he (by omega)] using ih
theorem impl_IsShop_1_ok (x : S56) : impl_IsShop_1.f x.f0 x.f1 x.f2 = some (!(okShop x)) := by
  simp only [impl_IsShop_1.f, impl_isMinutes.f, inRange, Option.bind_some, okShop]
  cases inR x.f0 0 9 <;> cases inR x.f1 0 100000 <;> cases inR x.f2 0 100000 <;> rfl
theorem contains_impl_IsShop_1 (l : List S56) (h : l.length ≤ 1048576) : Ev (fun k => slices_ContainsFunc_at_impl_IsShop_1.f k l) (!(l.all okShop)) := by
  have H := loop_list l (fun p s => ∃ r, Ev (fun k => slices_IndexFunc_at_impl_IsShop_1.l0 k l (l.length : Int) (p.length : Int)) r ∧ decide (r ≥ 0) = !(s.all okShop)) ?_ ?_
  · obtain ⟨r, hr, e⟩ := H
    rw [← e]
    exact Ev.bind hr (Ev.now _)
  · refine ⟨-1, Ev.step (fun k => by rw [slices_IndexFunc_at_impl_IsShop_1.l0]) ?_, by simp⟩
    simp only [if_neg (nlt_self l)]
    exact Ev.now _
  · rintro p x s he ⟨r, ih, e⟩
    by_cases hx : okShop x = true
    · refine ⟨r, Ev.step (fun k => by rw [slices_IndexFunc_at_impl_IsShop_1.l0]) ?_, by rw [e]; simp [hx]⟩
      simp only [if_pos (mid_lt he), if_pos (nat_nn p.length), rd_T56, mid_get he, impl_IsShop_1_ok, hx, Option.bind_some, mid_next he (by omega)]
      exact ih
    · refine ⟨(p.length : Int), Ev.step (fun k => by rw [slices_IndexFunc_at_impl_IsShop_1.l0]) ?_, by simp [hx]⟩
      simp only [if_pos (mid_lt he), if_pos (nat_nn p.length), rd_T56, mid_get he, impl_IsShop_1_ok, Bool.eq_false_iff.2 hx, Option.bind_some]
      exact Ev.now _
theorem impl_IsShop (a : Int) (l : List S56) (h : l.length ≤ 1048576) : Ev (fun k => impl_IsShop.f k a l) (shopB a l) := by
  simp only [impl_IsShop.f, impl_isMinutes.f, inRange, Option.bind_some, shopB]
  cases inR a 0 100000
  · simp only [Bool.false_eq_true, if_false, Bool.false_and, Bool.and_false]
    exact Ev.now _
  · by_cases hl : (l.length : Int) ≤ 7
    · simp only [if_pos hl, if_true]
      exact ev_eq (Ev.bind (contains_impl_IsShop_1 l h) (Ev.now _)) (by simp [show l.length ≤ 7 by omega])
    · simp only [if_neg hl, if_true]
      exact ev_eq (Ev.now _) (by simp [show ¬ l.length ≤ 7 by omega])

/-- Each number is in the range, and none comes twice. -/
def ordF (n : Int) (seen : List Int) : List Int → Bool
  | [] => true
  | x :: s => inR x 0 (n - 1) && (!(decide (x ∈ seen)) && ordF n (seen ++ [x]) s)
def orderB (l : List Int) : Bool := ordF (l.length : Int) [] l && decide (l.length ≤ 64)
theorem spec_has (l : List Int) (y : Int) (h : l.length ≤ 9000000000000000000) : Ev (fun k => spec_l01Has.f k l y) (decide (y ∈ l)) := by
  refine loop_list l (fun p s => Ev (fun k => spec_l01Has.l0 k l y (p.length : Int)) (decide (y ∈ s))) ?_ ?_
  · refine Ev.step (fun k => by rw [spec_l01Has.l0]) ?_
    simp only [if_neg (nlt_self l)]
    exact ev_eq (Ev.now _) (by simp)
  · intro p x s he ih
    refine Ev.step (fun k => by rw [spec_l01Has.l0]) ?_
    have hx : rd l (p.length : Int) = x := mid_get he 0
    simp only [if_pos (mid_lt he), if_pos (nat_nn p.length), hx, mid_next he (by omega)]
    by_cases e : x = y
    · simp only [if_pos e]
      exact ev_eq (Ev.now _) (by simp [e])
    · simp only [if_neg e]
      exact ev_eq ih (by simp [show ¬ y = x from fun h => e h.symm])
theorem impl_IsOrder (l : List Int) (h : l.length ≤ 1048576) : Ev (fun k => impl_IsOrder.f k l) (orderB l) := by
  simp only [impl_IsOrder.f]
  by_cases hl : (l.length : Int) > 64
  · simp only [if_pos hl]
    exact ev_eq (Ev.now _) (by simp [orderB, show ¬ l.length ≤ 64 by omega])
  · simp only [if_neg hl, if_pos (nat_nn l.length), Int.toNat_natCast, if_pos (show l.length ≤ 281474976710656 by omega)]
    refine ev_eq (r := ordF (l.length : Int) [] l) ?_ (by simp [orderB, show l.length ≤ 64 by omega])
    refine loop_list l (fun p s => ∀ b : List Bool, b.length = l.length → (∀ v : Nat, v < l.length → b.getD v false = decide ((v : Int) ∈ p)) → Ev (fun k => impl_IsOrder.l0 k l b l (l.length : Int) (p.length : Int)) (ordF (l.length : Int) p s)) ?_ ?_ (List.replicate l.length false) (by simp) (by intro v hv; simp [List.getD_eq_getElem?_getD, List.getElem?_replicate, hv])
    · intro b hb hv
      refine Ev.step (fun k => by rw [impl_IsOrder.l0]) ?_
      simp only [if_neg (nlt_self l), ordF]
      exact Ev.now _
    · intro p x s he ih b hb hv
      refine Ev.step (fun k => by rw [impl_IsOrder.l0]) ?_
      have hx : rd l (p.length : Int) = x := mid_get he 0
      have hp := mid_lt he
      simp only [if_pos hp, if_pos (nat_nn p.length), hx, impl_length_int64.f, w64 (x := (l.length : Int) - 1) (by omega) (by omega), inRange, Option.bind_some, mid_next he (by omega), ordF]
      cases hr : inR x 0 ((l.length : Int) - 1)
      · simp only [Bool.false_eq_true, if_false, Bool.false_and]
        exact Ev.now _
      · obtain ⟨h0, h1⟩ := inR_iff.1 hr
        have hg : rdOf false b x = decide (x ∈ p) := by
          have := hv x.toNat (by omega)
          rw [show ((x.toNat : Nat) : Int) = x by omega] at this
          rw [← this]
          rfl
        simp only [if_true, Bool.true_and, if_pos h0, if_pos (show x < (b.length : Int) by omega), hg]
        cases hd : decide (x ∈ p)
        · simp only [Bool.false_eq_true, if_false, Bool.not_false, Bool.true_and]
          refine ih (b.set x.toNat true) (by simpa using hb) (fun v hv' => ?_)
          have := hv v hv'
          simp only [List.getD_eq_getElem?_getD, List.getElem?_set, hb] at this ⊢
          by_cases e : x.toNat = v
          · simp [e, hv', show (v : Int) = x by omega]
          · simp only [if_neg e, List.mem_append, List.mem_singleton, this]
            simp [show ¬ (v : Int) = x by omega]
        · simp only [if_true, Bool.not_true, Bool.false_and]
          exact Ev.now _
def sumI (f : Int → Int) : List Int → Int
  | [] => 0
  | x :: s => f x + sumI f s
def sumN (f : Int → Int) : Nat → Int
  | 0 => 0
  | n + 1 => sumN f n + f (n : Int)
theorem sumI_snoc (f : Int → Int) (a : List Int) (x : Int) : sumI f (a ++ [x]) = sumI f a + f x := by
  induction a with
  | nil => simp [sumI]
  | cons y a ih => simp only [List.cons_append, sumI, ih]; omega
theorem nodup_short : ∀ (n : Nat) (o : List Int), o.Nodup → (∀ x ∈ o, 0 ≤ x ∧ x < (n : Int)) → o.length ≤ n := by
  intro n
  induction n with
  | zero =>
    intro o _ h
    cases o with
    | nil => simp
    | cons x o => have := h x (by simp); omega
  | succ n ih =>
    intro o hn h
    have h1 := ih (o.erase (n : Int)) (hn.erase _) (fun x hx => by
      have h1 := h x (List.mem_of_mem_erase hx)
      have h2 : x ≠ (n : Int) := fun e => by subst e; exact hn.not_mem_erase hx
      omega)
    have h2 := List.length_erase (a := (n : Int)) (l := o)
    split at h2 <;> omega
/-- What the jobs take, by their numbers. -/
def minF (l : List S56) (i : Int) : Int := (rd_T56 l i).f1
theorem job_ok {a : Int} {l : List S56} (h : shopB a l = true) {i : Int} (h0 : 0 ≤ i) (h1 : i < (l.length : Int)) : 0 ≤ (rd_T56 l i).f0 ∧ 0 ≤ minF l i ∧ minF l i ≤ 100000 ∧ 0 ≤ (rd_T56 l i).f2 ∧ (rd_T56 l i).f2 ≤ 100000 := by
  simp only [shopB, Bool.and_eq_true, List.all_eq_true] at h
  have hm : rd_T56 l i ∈ l := by
    have : i.toNat < l.length := by omega
    unfold rd_T56
    rw [List.getD_eq_getElem?_getD, List.getElem?_eq_getElem this]
    exact List.getElem_mem this
  have := h.1 _ hm
  simp only [okShop, Bool.and_eq_true, inR_iff] at this
  unfold minF
  omega
theorem shop_a {a : Int} {l : List S56} (h : shopB a l = true) : 0 ≤ a ∧ a ≤ 100000 ∧ l.length ≤ 7 := by
  simp only [shopB, Bool.and_eq_true, inR_iff, decide_eq_true_eq] at h
  omega
theorem rd_set {d : List Int} {i : Nat} {x v : Int} (hi : i < d.length) (hx : 0 ≤ x) : rd (d.set x.toNat v) (i : Int) = if (i : Int) = x then v else rd d (i : Int) := by
  unfold rd
  simp only [List.getD_eq_getElem?_getD, Int.toNat_natCast, List.getElem?_set]
  by_cases e : x.toNat = i
  · rw [if_pos e, if_pos (show (i : Int) = x by omega), if_pos (show x.toNat < d.length by omega)]; simp
  · rw [if_neg e, if_neg (show ¬ (i : Int) = x by omega)]
def shopCode (a : Int) (l : List S56) (o : List Int) : Int := if shopB a l = true then (if orderB o = true then (if (o.length : Int) = (l.length : Int) then 0 else 2) else 2) else 1
theorem impl_shopCode (a : Int) (l : List S56) (o : List Int) (h : l.length ≤ 1048576) (ho : o.length ≤ 1048576) : Ev (fun k => impl_checkShop.f k a l o) (shopCode a l o) := by
  simp only [impl_checkShop.f]
  refine Ev.bind (impl_IsShop a l h) ?_
  cases h1 : shopB a l
  · simp only [Bool.false_eq_true, if_false]
    exact ev_eq (Ev.now _) (by simp [shopCode, h1])
  · simp only [if_true]
    refine Ev.bind (impl_IsOrder o ho) ?_
    cases h2 : orderB o <;> simp only [Bool.false_eq_true, if_false, if_true]
    · exact ev_eq (Ev.now _) (by simp [shopCode, h1, h2])
    · by_cases h3 : (o.length : Int) = (l.length : Int)
      · simp only [if_pos h3]
        exact ev_eq (Ev.now _) (by simp only [shopCode, h1, h2, if_true, if_pos h3])
      · simp only [if_neg h3]
        exact ev_eq (Ev.now _) (by simp only [shopCode, h1, h2, if_true, if_neg h3])
theorem shopCode_zero {a : Int} {l : List S56} {o : List Int} (h : shopCode a l o = 0) : shopB a l = true ∧ orderB o = true ∧ o.length = l.length ∧ l.length ≤ 7 := by
  unfold shopCode at h
  by_cases h1 : shopB a l = true <;> by_cases h2 : orderB o = true <;> by_cases h3 : (o.length : Int) = (l.length : Int) <;> simp [h1, h2, h3] at h
  refine ⟨h1, h2, by omega, ?_⟩
  simp only [shopB, Bool.and_eq_true, decide_eq_true_eq] at h1
  exact h1.2.2
theorem both_work (a : Int) (l : List S56) (o : List Int) (hl7 : l.length ≤ 7) (hol : o.length = l.length) (hb : ∀ x ∈ o, 0 ≤ x ∧ x < (l.length : Int)) : ∃ r, Ev (fun k => spec_l20Done.f k a l o) r ∧ Ev (fun k => impl_work.f k a l o) r ∧ r.1.length = l.length := by
  simp only [spec_l20Done.f, impl_work.f, if_pos (nat_nn l.length), Int.toNat_natCast, if_pos (show l.length ≤ 35184372088832 by omega)]
  refine loop_list o (fun p s => ∀ (x8 : List Int) (x9 x10 x11 : Int), x8.length = l.length → ∃ r, Ev (fun k => spec_l20Done.l0 k a l o x8 x9 x10 x11 (p.length : Int)) r ∧ Ev (fun k => impl_work.l0 k a l x8 x9 x10 x11 o (o.length : Int) (p.length : Int)) r ∧ r.1.length = l.length) ?_ ?_ (List.replicate l.length 0) 0 (-1) 0 (by simp)
  · intro x8 x9 x10 x11 h8
    refine ⟨(x8, x11), Ev.step (fun k => by rw [spec_l20Done.l0]) ?_, Ev.step (fun k => by rw [impl_work.l0]) ?_, h8⟩ <;> simp only [if_neg (nlt_self o)] <;> exact Ev.now _
  · intro p x s he ih x8 x9 x10 x11 h8
    have hx : rd o (p.length : Int) = x := mid_get he 0
    have hr := hb x (by rw [he]; simp)
    by_cases hf : (rd_T56 l x).f0 = x10
    · obtain ⟨r, h1, h2, h3⟩ := ih (x8.set x.toNat (wrap64 (x9 + (rd_T56 l x).f1))) (wrap64 (x9 + (rd_T56 l x).f1)) x10 x11 (by simpa using h8)
      refine ⟨r, Ev.step (fun k => by rw [spec_l20Done.l0]) ?_, Ev.step (fun k => by rw [impl_work.l0]) ?_, h3⟩ <;> simp only [if_pos (mid_lt he), if_pos (nat_nn p.length), hx, if_pos hr.1, if_pos (show x < (l.length : Int) by omega), if_pos (show x < (x8.length : Int) by omega), if_pos hf, mid_next he (by omega)]
      · rw [hf]; exact h1
      · exact h2
    · obtain ⟨r, h1, h2, h3⟩ := ih (x8.set x.toNat (wrap64 (wrap64 (x9 + a) + (rd_T56 l x).f1))) (wrap64 (wrap64 (x9 + a) + (rd_T56 l x).f1)) (rd_T56 l x).f0 (wrap64 (x11 + 1)) (by simpa using h8)
      refine ⟨r, Ev.step (fun k => by rw [spec_l20Done.l0]) ?_, Ev.step (fun k => by rw [impl_work.l0]) ?_, h3⟩ <;> simp only [if_pos (mid_lt he), if_pos (nat_nn p.length), hx, if_pos hr.1, if_pos (show x < (l.length : Int) by omega), if_pos (show x < (x8.length : Int) by omega), if_neg hf, mid_next he (by omega)]
      · exact h1
      · exact h2
theorem max_cons (y : Int) (t : List Int) (h : (y :: t).length ≤ 1048576) : Ev (fun k => slices_Max__int64_int64.f k (y :: t)) (t.foldl mx y) := by
  have H := loop_all (y :: t) (fun p s => ∀ acc, Ev (fun k => slices_Max__int64_int64.l0 k (y :: t) acc (p.length : Int)) (s.foldl mx acc)) ?_ ?_ t [y] rfl y
  · have e1 : ¬ (((y :: t).length : Int) < 1) := by simp only [List.length_cons]; omega
    have e2 : 0 < ((y :: t).length : Int) := by simp only [List.length_cons]; omega
    simp only [slices_Max__int64_int64.f, if_neg e1, if_pos e2]
    exact H
  · intro acc
    refine Ev.step (fun k => by rw [slices_Max__int64_int64.l0]) ?_
    simp only [if_neg (nlt_self (y :: t)), List.foldl_nil]
    exact Ev.now _
  · intro p x s he ih acc
    refine Ev.step (fun k => by rw [slices_Max__int64_int64.l0]) ?_
    have hx : rd (y :: t) (p.length : Int) = x := mid_get he 0
    simp only [if_pos (mid_lt he), if_pos (nat_nn p.length), hx, mid_next he (by omega), List.foldl_cons]
    exact ih _
def lateF (d : List Int) : Nat → List S56 → List Int
  | _, [] => []
  | i, x :: s => wrap64 (rd d (i : Int) - x.f2) :: lateF d (i + 1) s
theorem lateF_length (d : List Int) : ∀ (s : List S56) i, (lateF d i s).length = s.length := by
  intro s
  induction s with
  | nil => intro i; rfl
  | cons x s ih => intro i; simp [lateF, ih]
/-- The lateness of the latest job. -/
def mostB (d : List Int) : List S56 → Int
  | [] => 0
  | x :: s => (lateF d 1 s).foldl mx (wrap64 (rd d 0 - x.f2))
theorem spec_late {a : Int} {l : List S56} {o : List Int} {r : List Int × Int} (hd : Ev (fun k => spec_l20Done.f k a l o) r) (hr : r.1.length = l.length) (h0 : 0 < l.length) (h7 : l.length ≤ 1048576) : Ev (fun k => spec_l20Late.f k a l o) (mostB r.1 l) := by
  simp only [spec_l20Late.f]
  refine Ev.bind hd ?_
  cases l with
  | nil => simp at h0
  | cons x s =>
    simp only [if_pos (show 0 < (r.1.length : Int) by omega), if_pos (show 0 < ((x :: s).length : Int) by omega)]
    have e : (rd_T56 (x :: s) 0).f2 = x.f2 := rfl
    rw [e]
    exact loop_all (x :: s) (fun p t => ∀ acc, Ev (fun k => spec_l20Late.l0 k (x :: s) r.1 acc (p.length : Int)) ((lateF r.1 p.length t).foldl mx acc)) (by
      intro acc
      refine Ev.step (fun k => by rw [spec_l20Late.l0]) ?_
      simp only [if_neg (nlt_self (x :: s)), lateF, List.foldl_nil]
      exact Ev.now _) (by
      intro p y t he ih acc
      have hp := mid_lt he
      refine Ev.step (fun k => by rw [spec_l20Late.l0]) ?_
      simp only [if_pos hp, if_pos (nat_nn p.length), if_pos (show (p.length : Int) < (r.1.length : Int) by omega), rd_T56, mid_get he, mid_next he (by omega), lateF, List.foldl_cons]
      have := ih (mx acc (wrap64 (rd r.1 (p.length : Int) - y.f2)))
      rw [show (p ++ [y]).length = p.length + 1 by simp] at this ⊢
      exact this) s [x] rfl _
theorem impl_late {a : Int} {l : List S56} {o : List Int} {r : List Int × Int} (hd : Ev (fun k => impl_work.f k a l o) r) (hr : r.1.length = l.length) (h0 : 0 < l.length) (h7 : l.length ≤ 1048576) : Ev (fun k => impl_mostLate.f k a l o) (mostB r.1 l) := by
  simp only [impl_mostLate.f]
  refine Ev.bind hd ?_
  have H := loop_list l (fun p t => ∀ acc : List Int, acc.length = p.length → Ev (fun k => slices_Max__int64_int64.f k (acc ++ lateF r.1 p.length t)) (mostB r.1 l) → Ev (fun k => impl_mostLate.l0 k l acc r.1 (r.1.length : Int) (p.length : Int)) (mostB r.1 l)) ?_ ?_ [] rfl ?_
  · exact H
  · intro acc ha hm
    refine Ev.step (fun k => by rw [impl_mostLate.l0]) ?_
    simp only [if_neg (show ¬ (l.length : Int) < (r.1.length : Int) by omega)]
    simp only [lateF, List.append_nil] at hm
    exact Ev.bind hm (Ev.now _)
  · intro p y t he ih acc ha hm
    have hp := mid_lt he
    refine Ev.step (fun k => by rw [impl_mostLate.l0]) ?_
    simp only [if_pos hp, if_pos (nat_nn p.length), if_pos (show (p.length : Int) < (r.1.length : Int) by omega), rd_T56, mid_get he, mid_next he (by omega), if_pos (show acc.length < 17592186044416 by omega)]
    refine ih _ (by simp [ha]) ?_
    simp only [lateF] at hm
    rw [show (p ++ [y]).length = p.length + 1 by simp]
    simpa using hm
  · cases l with
    | nil => simp at h0
    | cons x s =>
      simp only [List.nil_append, lateF, mostB]
      exact max_cons _ _ (by simp only [List.length_cons, lateF_length] at h7 ⊢; omega)
theorem foldl_mx_ge : ∀ (t : List Int) (acc : Int), acc ≤ t.foldl mx acc ∧ ∀ y ∈ t, y ≤ t.foldl mx acc := by
  intro t
  induction t with
  | nil => intro acc; exact ⟨Int.le_refl _, fun y hy => by cases hy⟩
  | cons z t ih =>
    intro acc
    obtain ⟨h1, h2⟩ := ih (mx acc z)
    have e : mx acc z = if acc < z then z else acc := rfl
    simp only [List.foldl_cons]
    refine ⟨by split at e <;> omega, fun y hy => ?_⟩
    rcases List.mem_cons.1 hy with rfl | hy
    · split at e <;> omega
    · exact h2 y hy
theorem lateF_mem (d : List Int) : ∀ (p : List S56) (x : S56) (s : List S56) (i : Nat), wrap64 (rd d ((i + p.length : Nat) : Int) - x.f2) ∈ lateF d i (p ++ x :: s) := by
  intro p
  induction p with
  | nil => intro x s i; simp [lateF]
  | cons y p ih =>
    intro x s i
    have := ih x s (i + 1)
    rw [show i + 1 + p.length = i + (y :: p).length by simp; omega] at this
    simp only [List.cons_append, lateF, List.mem_cons]
    exact Or.inr this
theorem most_ge (d : List Int) {l p s : List S56} {x : S56} (he : l = p ++ x :: s) : wrap64 (rd d (p.length : Int) - x.f2) ≤ mostB d l := by
  cases p with
  | nil =>
    simp only [List.nil_append] at he
    subst he
    simp only [mostB, List.length_nil]
    exact (foldl_mx_ge _ _).1
  | cons y p =>
    subst he
    simp only [List.cons_append, mostB]
    have := lateF_mem d p x s 1
    rw [show 1 + p.length = (y :: p).length by simp; omega] at this
    exact (foldl_mx_ge _ _).2 _ this
theorem ordF_of {n : Int} : ∀ (s seen : List Int), s.Nodup → (∀ x ∈ s, x ∉ seen) → (∀ x ∈ s, 0 ≤ x ∧ x < n) → ordF n seen s = true := by
  intro s
  induction s with
  | nil => intro seen _ _ _; rfl
  | cons y s ih =>
    intro seen hn hs hr
    obtain ⟨h1, h2⟩ := List.nodup_cons.1 hn
    have h3 := hr y (by simp)
    simp only [ordF, Bool.and_eq_true, Bool.not_eq_true', decide_eq_false_iff_not, inR_iff]
    refine ⟨by omega, hs y (by simp), ih _ h2 (fun x hx => ?_) (fun x hx => hr x (by simp [hx]))⟩
    intro hm
    rcases List.mem_append.1 hm with hm | hm
    · exact hs x (by simp [hx]) hm
    · have : x = y := by simpa using hm
      subst this; exact h1 hx
/-- The numbers from m on. -/
def numsI (m : Int) : Nat → List Int
  | 0 => []
  | n + 1 => m :: numsI (m + 1) n
theorem numsI_length (n : Nat) : ∀ m, (numsI m n).length = n := by
  induction n with
  | zero => intro m; rfl
  | succ n ih => intro m; simp [numsI, ih]
/-- A number put ahead of the first that it is less than. -/
def insF (lt : Int → Int → Bool) (x : Int) : List Int → List Int
  | [] => [x]
  | y :: t => if lt x y = true then x :: y :: t else y :: insF lt x t
def sortF (lt : Int → Int → Bool) : Nat → List Int
  | 0 => []
  | n + 1 => insF lt (n : Int) (sortF lt n)
/-- None is less than one ahead of it. -/
def srtd (lt : Int → Int → Bool) (p : List Int) : Prop := ∀ u y v, p = u ++ y :: v → ∀ z ∈ v, lt z y = false
theorem insF_length (lt : Int → Int → Bool) (x : Int) (p : List Int) : (insF lt x p).length = p.length + 1 := by
  induction p with
  | nil => rfl
  | cons y p ih => simp only [insF]; split <;> simp [ih]
theorem sortF_length (lt : Int → Int → Bool) (n : Nat) : (sortF lt n).length = n := by
  induction n with
  | zero => rfl
  | succ n ih => simp [sortF, insF_length, ih]
theorem insF_mem {lt : Int → Int → Bool} {x z : Int} : ∀ {p : List Int}, z ∈ insF lt x p ↔ z = x ∨ z ∈ p := by
  intro p
  induction p with
  | nil => simp [insF]
  | cons y p ih =>
    simp only [insF]
    split
    · simp
    · simp only [List.mem_cons, ih]
      constructor
      · rintro (h | h | h)
        · exact Or.inr (Or.inl h)
        · exact Or.inl h
        · exact Or.inr (Or.inr h)
      · rintro (h | h | h)
        · exact Or.inr (Or.inl h)
        · exact Or.inl h
        · exact Or.inr (Or.inr h)
theorem sortF_mem {lt : Int → Int → Bool} : ∀ {n : Nat} {z : Int}, z ∈ sortF lt n → 0 ≤ z ∧ z < (n : Int) := by
  intro n
  induction n with
  | zero => intro z h; cases h
  | succ n ih =>
    intro z h
    rcases insF_mem.1 h with rfl | h
    · omega
    · have := ih h; omega
theorem srtd_cons {lt : Int → Int → Bool} {y : Int} {p : List Int} : srtd lt (y :: p) ↔ (∀ z ∈ p, lt z y = false) ∧ srtd lt p := by
  constructor
  · intro h
    exact ⟨h [] y p rfl, fun u w v e => h (y :: u) w v (by rw [e]; rfl)⟩
  · rintro ⟨h1, h2⟩ u w v e
    cases u with
    | nil => simp only [List.nil_append, List.cons.injEq] at e; obtain ⟨rfl, rfl⟩ := e; exact h1
    | cons q u => simp only [List.cons_append, List.cons.injEq] at e; exact h2 u w v e.2
theorem insF_srtd {lt : Int → Int → Bool} (hO : ∀ x y z, lt x y = true → lt z y = false → lt x z = true) (hA : ∀ x y, lt x y = true → lt y x = false) (x : Int) : ∀ p, srtd lt p → srtd lt (insF lt x p) := by
  intro p
  induction p with
  | nil => intro _; exact srtd_cons.2 ⟨fun z hz => (by cases hz), fun u y v e => (by simp at e)⟩
  | cons y p ih =>
    intro h
    obtain ⟨h1, h2⟩ := srtd_cons.1 h
    simp only [insF]
    by_cases hx : lt x y = true
    · rw [if_pos hx]
      refine srtd_cons.2 ⟨fun z hz => ?_, h⟩
      rcases List.mem_cons.1 hz with rfl | hz
      · exact hA _ _ hx
      · exact hA _ _ (hO x y z hx (h1 z hz))
    · rw [if_neg hx]
      refine srtd_cons.2 ⟨fun z hz => ?_, ih h2⟩
      rcases insF_mem.1 hz with rfl | hz
      · exact Bool.eq_false_iff.2 hx
      · exact h1 z hz
theorem sortF_srtd {lt : Int → Int → Bool} (hO : ∀ x y z, lt x y = true → lt z y = false → lt x z = true) (hA : ∀ x y, lt x y = true → lt y x = false) (n : Nat) : srtd lt (sortF lt n) := by
  induction n with
  | zero => intro u y v e; simp [sortF] at e
  | succ n ih => exact insF_srtd hO hA _ _ ih
theorem insF_at {lt : Int → Int → Bool} {x : Int} : ∀ (u v : List Int), (∀ w ∈ u, lt x w = false) → (v = [] ∨ ∃ y t, v = y :: t ∧ lt x y = true) → insF lt x (u ++ v) = u ++ x :: v := by
  intro u
  induction u with
  | nil =>
    rintro v _ (rfl | ⟨y, t, rfl, h⟩)
    · rfl
    · simp only [List.nil_append, insF, if_pos h]
  | cons w u ih =>
    intro v h1 h2
    simp only [List.cons_append, insF, if_neg (Bool.eq_false_iff.1 (h1 w (by simp))), ih v (fun z hz => h1 z (by simp [hz])) h2]
theorem srtd_all {lt : Int → Int → Bool} (hO : ∀ x y z, lt x y = true → lt z y = false → lt x z = true) {x y : Int} {u v : List Int} (h : srtd lt (u ++ y :: v)) (hy : lt x y = false) : ∀ w ∈ u ++ [y], lt x w = false := by
  intro w hw
  rcases List.mem_append.1 hw with hw | hw
  · obtain ⟨a, b, rfl⟩ := List.append_of_mem hw
    have := h a w (b ++ y :: v) (by simp) y (by simp)
    cases e : lt x w
    · rfl
    · rw [hO x w y e this] at hy; cases hy
  · have : w = y := by simpa using hw
    rw [this]; exact hy
theorem insF_perm (lt : Int → Int → Bool) (x : Int) : ∀ p, (insF lt x p).Perm (x :: p) := by
  intro p
  induction p with
  | nil => exact List.Perm.refl _
  | cons y p ih =>
    simp only [insF]
    split
    · exact List.Perm.refl _
    · exact (List.Perm.cons y ih).trans (List.Perm.swap x y p)
theorem sortF_nodup (lt : Int → Int → Bool) (n : Nat) : (sortF lt n).Nodup := by
  induction n with
  | zero => exact List.nodup_nil
  | succ n ih =>
    refine (insF_perm lt (n : Int) (sortF lt n)).nodup_iff.2 (List.nodup_cons.2 ⟨fun h => ?_, ih⟩)
    have := sortF_mem h
    omega
theorem order_perm (lt : Int → Int → Bool) : ∀ (n : Nat) (o : List Int), o.Nodup → (∀ x ∈ o, 0 ≤ x ∧ x < (n : Int)) → o.length = n → o.Perm (sortF lt n) := by
  intro n
  induction n with
  | zero =>
    intro o _ _ hl
    rw [List.eq_nil_of_length_eq_zero hl]
    exact List.Perm.refl _
  | succ n ih =>
    intro o hn h hl
    have hm : (n : Int) ∈ o := by
      apply Decidable.byContradiction
      intro hm
      have := nodup_short n o hn (fun x hx => by
        have h1 := h x hx
        have h2 : x ≠ (n : Int) := fun e => by subst e; exact hm hx
        omega)
      omega
    have := ih (o.erase (n : Int)) (hn.erase _) (fun x hx => by
      have h1 := h x (List.mem_of_mem_erase hx)
      have h2 : x ≠ (n : Int) := fun e => by subst e; exact hn.not_mem_erase hx
      omega) (by rw [List.length_erase_of_mem hm]; omega)
    exact (List.perm_cons_erase hm).trans ((List.Perm.cons _ this).trans (insF_perm lt (n : Int) (sortF lt n)).symm)
theorem ins_impl_FamilyOrder_1 {l : List S56} {lt : Int → Int → Bool} (hcmp : ∀ a b : Int, 0 ≤ a → a < (l.length : Int) → 0 ≤ b → b < (l.length : Int) → ∃ t : Int, Ev (fun k => impl_FamilyOrder_1.f k a b l) t ∧ (t < 0 ↔ lt a b = true)) (hO : ∀ x y z, lt x y = true → lt z y = false → lt x z = true)
    {x : Int} (hx0 : 0 ≤ x) (hx1 : x < (l.length : Int)) (n i : Int) {r : List Int} (rest : List Int) : ∀ (d : Nat) (u v : List Int), u.length = d → (u ++ v).length + rest.length ≤ 1000000 → srtd lt (u ++ v) → (∀ z ∈ u ++ v, 0 ≤ z ∧ z < (l.length : Int)) → (v = [] ∨ ∃ y t, v = y :: t ∧ lt x y = true) →
    Ev (fun k => slices_insertionSortCmpFunc_at_impl_FamilyOrder_1.l0 k (insF lt x (u ++ v) ++ rest) 0 n l (wrap64 (i + 1))) r → Ev (fun k => slices_insertionSortCmpFunc_at_impl_FamilyOrder_1.l1 k (u ++ x :: (v ++ rest)) 0 n l i (u.length : Int)) r := by
  intro d
  induction d with
  | zero =>
    intro u v hu hl hs hm hv h
    have : u = [] := List.eq_nil_of_length_eq_zero hu
    subst this
    rw [insF_at [] v (fun w hw => by cases hw) hv] at h
    refine Ev.step (fun k => by rw [slices_insertionSortCmpFunc_at_impl_FamilyOrder_1.l1]) ?_
    simp only [if_neg (show ¬ (((([] : List Int).length : Nat) : Int) > 0) by simp)]
    simpa using h
  | succ d ih =>
    intro u v hu hl hs hm hv h
    rcases nil_or_snoc u with rfl | ⟨u, y, rfl⟩
    · simp at hu
    · have hul : u.length = d := by simpa using hu
      have hy := hm y (by simp)
      have hpl : ((u ++ [y]).length : Int) = (u.length : Int) + 1 := by simp
      have hlen : ((u ++ [y] ++ x :: (v ++ rest)).length : Int) = (u.length : Int) + 2 + (v.length : Int) + (rest.length : Int) := by simp; omega
      have hl' : u.length + 1 + v.length + rest.length ≤ 1000000 := by simpa [Nat.add_assoc, Nat.add_comm, Nat.add_left_comm] using hl
      have e1 : wrap64 ((u.length : Int) + 1 - 1) = (u.length : Int) := by rw [show (u.length : Int) + 1 - 1 = (u.length : Int) by omega]; exact w64 (by omega) (by omega)
      have g1 : rd (u ++ [y] ++ x :: (v ++ rest)) ((u.length : Int) + 1) = x := by
        rw [← hpl]; exact get_mid _ _ _ 0
      have g2 : rd (u ++ [y] ++ x :: (v ++ rest)) (u.length : Int) = y := by
        rw [show u ++ [y] ++ x :: (v ++ rest) = u ++ y :: (x :: (v ++ rest)) by simp]; exact get_mid _ _ _ 0
      obtain ⟨t, ht, hlt⟩ := hcmp x y hx0 hx1 hy.1 hy.2
      refine Ev.step (fun k => by rw [slices_insertionSortCmpFunc_at_impl_FamilyOrder_1.l1]) ?_
      simp only [hpl, if_pos (show (u.length : Int) + 1 > 0 by omega), if_pos (show 0 ≤ (u.length : Int) + 1 by omega), hlen, if_pos (show (u.length : Int) + 1 < (u.length : Int) + 2 + (v.length : Int) + (rest.length : Int) by omega), e1, if_pos (nat_nn u.length), if_pos (show (u.length : Int) < (u.length : Int) + 2 + (v.length : Int) + (rest.length : Int) by omega), g1, g2]
      refine Ev.bind ht ?_
      by_cases hc : lt x y = true
      · simp only [if_pos (hlt.2 hc)]
        have s1 : ((u ++ [y] ++ x :: (v ++ rest)).set (((u.length : Int) + 1)).toNat y).set ((u.length : Int)).toNat x = u ++ x :: ((y :: v) ++ rest) := by
          rw [← hpl, set_mid, show u ++ [y] ++ y :: (v ++ rest) = u ++ y :: (y :: (v ++ rest)) by simp, set_mid]
          simp
        rw [s1]
        refine ih u (y :: v) hul (by simpa [Nat.add_assoc, Nat.add_comm, Nat.add_left_comm] using hl) (by simpa using hs) (fun z hz => hm z (by simpa using hz)) (Or.inr ⟨y, v, rfl, hc⟩) ?_
        simpa using h
      · have hc' := Bool.eq_false_iff.2 hc
        simp only [if_neg (fun h => hc (hlt.1 h))]
        rw [insF_at (u ++ [y]) v (srtd_all hO (by simpa using hs) hc') hv] at h
        simpa using h
theorem sort_impl_FamilyOrder_1 {l : List S56} {lt : Int → Int → Bool} (hcmp : ∀ a b : Int, 0 ≤ a → a < (l.length : Int) → 0 ≤ b → b < (l.length : Int) → ∃ t : Int, Ev (fun k => impl_FamilyOrder_1.f k a b l) t ∧ (t < 0 ↔ lt a b = true)) (hO : ∀ x y z, lt x y = true → lt z y = false → lt x z = true) (hA : ∀ x y, lt x y = true → lt y x = false)
    : ∀ (m i : Nat), i + m = l.length → l.length ≤ 1000 → Ev (fun k => slices_insertionSortCmpFunc_at_impl_FamilyOrder_1.l0 k (sortF lt i ++ numsI (i : Int) m) 0 (l.length : Int) l (i : Int)) (sortF lt l.length) := by
  intro m
  induction m with
  | zero =>
    intro i hi hl
    have : i = l.length := by omega
    subst this
    refine Ev.step (fun k => by rw [slices_insertionSortCmpFunc_at_impl_FamilyOrder_1.l0]) ?_
    simp only [if_neg (nlt_self l), numsI, List.append_nil]
    exact Ev.now _
  | succ m ih =>
    intro i hi hl
    refine Ev.step (fun k => by rw [slices_insertionSortCmpFunc_at_impl_FamilyOrder_1.l0]) ?_
    simp only [if_pos (show (i : Int) < (l.length : Int) by omega), numsI]
    have hn := ih (i + 1) (by omega) hl
    have := ins_impl_FamilyOrder_1 hcmp hO (x := (i : Int)) (by omega) (by omega) (l.length : Int) (i : Int) (r := sortF lt l.length) (numsI ((i : Int) + 1) m) i (sortF lt i) [] (sortF_length lt i) (by simp [sortF_length, numsI_length]; omega) (by simpa using sortF_srtd hO hA i) (fun z hz => by
      have := sortF_mem (by simpa using hz : z ∈ sortF lt i)
      omega) (Or.inl rfl) (by
      rw [w64 (by omega) (by omega), List.append_nil]
      have e : ((i + 1 : Nat) : Int) = (i : Int) + 1 := by omega
      rw [e] at hn
      exact hn)
    rw [sortF_length] at this
    simpa using this
theorem sorted_impl_FamilyOrder_1 {l : List S56} {lt : Int → Int → Bool} (hcmp : ∀ a b : Int, 0 ≤ a → a < (l.length : Int) → 0 ≤ b → b < (l.length : Int) → ∃ t : Int, Ev (fun k => impl_FamilyOrder_1.f k a b l) t ∧ (t < 0 ↔ lt a b = true)) (hO : ∀ x y z, lt x y = true → lt z y = false → lt x z = true) (hA : ∀ x y, lt x y = true → lt y x = false)
    (h7 : l.length ≤ 7) : Ev (fun k => impl_sortedBy_at_impl_FamilyOrder_1.f k (l.length : Int) l) (sortF lt l.length) := by
  have hs : Ev (fun k => slices_SortStableFunc_at_impl_FamilyOrder_1.f k (numsI 0 l.length) l) (sortF lt l.length) := by
    simp only [slices_SortStableFunc_at_impl_FamilyOrder_1.f]
    refine Ev.bind (a := sortF lt l.length) ?_ (Ev.now _)
    simp only [slices_stableCmpFunc_at_impl_FamilyOrder_1.f, numsI_length]
    refine Ev.step (fun k => by rw [slices_stableCmpFunc_at_impl_FamilyOrder_1.l0]) ?_
    simp only [if_neg (show ¬ ((20 : Int) ≤ (l.length : Int)) by omega)]
    refine Ev.bind (a := sortF lt l.length) ?_ ?_
    · simp only [slices_insertionSortCmpFunc_at_impl_FamilyOrder_1.f]
      rw [show wrap64 ((0 : Int) + 1) = ((1 : Nat) : Int) from w64 (by omega) (by omega)]
      by_cases h0 : l.length = 0
      · rw [h0]
        refine Ev.step (fun k => by rw [slices_insertionSortCmpFunc_at_impl_FamilyOrder_1.l0]) ?_
        simp only [if_neg (show ¬ (((1 : Nat) : Int) < ((0 : Nat) : Int)) by omega), numsI, sortF]
        exact Ev.now _
      · have := sort_impl_FamilyOrder_1 hcmp hO hA (l.length - 1) 1 (by omega) (by omega)
        have e : numsI 0 l.length = sortF lt 1 ++ numsI ((1 : Nat) : Int) (l.length - 1) := by
          rw [show l.length = (l.length - 1) + 1 by omega]
          simp [numsI, sortF, insF]
        rw [← e] at this
        exact this
    · refine Ev.step (fun k => by rw [slices_stableCmpFunc_at_impl_FamilyOrder_1.l1]) ?_
      simp only [if_neg (show ¬ ((20 : Int) < (l.length : Int)) by omega)]
      exact Ev.now _
  simp only [impl_sortedBy_at_impl_FamilyOrder_1.f]
  have H : ∀ (m : Nat) (acc : List Int) (i : Int), 0 ≤ i → i + (m : Int) = (l.length : Int) → (acc.length : Int) = i → acc ++ numsI i m = numsI 0 l.length → Ev (fun k => impl_sortedBy_at_impl_FamilyOrder_1.l0 k l acc (l.length : Int) i) (sortF lt l.length) := by
    intro m
    induction m with
    | zero =>
      intro acc i h0 hi ha he
      refine Ev.step (fun k => by rw [impl_sortedBy_at_impl_FamilyOrder_1.l0]) ?_
      simp only [if_neg (show ¬ (i < (l.length : Int)) by omega)]
      simp only [numsI, List.append_nil] at he
      rw [he]
      exact Ev.bind hs (Ev.now _)
    | succ m ih =>
      intro acc i h0 hi ha he
      refine Ev.step (fun k => by rw [impl_sortedBy_at_impl_FamilyOrder_1.l0]) ?_
      simp only [if_pos (show i < (l.length : Int) by omega), if_pos (show acc.length < 17592186044416 by omega), w64 (x := i + 1) (by omega) (by omega)]
      exact ih (acc ++ [i]) (i + 1) (by omega) (by omega) (by simp; omega) (by simpa [numsI] using he)
  exact H l.length [] 0 (by omega) (by omega) rfl rfl
/-- The least due time of a family. -/
def mapD (l : List S56) (a : Int) : Int := (firstM l a).getD 0
def minOf (a : Int) (l : List S56) (acc : Int) : Int := l.foldl (fun acc x => if x.f0 = a then mn acc x.f2 else acc) acc
theorem minOf_app (a : Int) (p : List S56) (x : S56) (acc : Int) : minOf a (p ++ [x]) acc = if x.f0 = a then mn (minOf a p acc) x.f2 else minOf a p acc := by simp [minOf, List.foldl_append]
theorem first_app (p : List S56) (x : S56) (a : Int) : firstM (p ++ [x]) a = if a = x.f0 then (match firstM p a with | none => some x.f2 | some d => if x.f2 < d then some x.f2 else some d) else firstM p a := by
  have e : firstM (p ++ [x]) = firstStep (firstM p) x := by simp [firstM, List.foldl_append]
  rw [e]
  rfl
theorem min_first (a : Int) : ∀ (n : Nat) (p : List S56), p.length = n → (firstM p a = none ∧ ∀ acc, minOf a p acc = acc) ∨ ∃ d, firstM p a = some d ∧ ∀ acc, minOf a p acc = mn acc d := by
  intro n
  induction n with
  | zero =>
    intro p hp
    rw [List.eq_nil_of_length_eq_zero hp]
    exact Or.inl ⟨rfl, fun _ => rfl⟩
  | succ n ih =>
    intro p hp
    rcases nil_or_snoc p with h | ⟨q, y, rfl⟩
    · subst h; simp at hp
    · have hq : q.length = n := by simpa using hp
      rcases ih q hq with ⟨h1, h2⟩ | ⟨d, h1, h2⟩
      · by_cases hy : a = y.f0
        · refine Or.inr ⟨y.f2, by rw [first_app, if_pos hy, h1], fun acc => by rw [minOf_app, if_pos hy.symm, h2]⟩
        · refine Or.inl ⟨by rw [first_app, if_neg hy, h1], fun acc => by rw [minOf_app, if_neg (fun e => hy e.symm), h2]⟩
      · by_cases hy : a = y.f0
        · by_cases hd : y.f2 < d
          · refine Or.inr ⟨y.f2, by rw [first_app, if_pos hy, h1]; simp [hd], fun acc => by rw [minOf_app, if_pos hy.symm, h2]; unfold mn; omega⟩
          · refine Or.inr ⟨d, by rw [first_app, if_pos hy, h1]; simp [hd], fun acc => by rw [minOf_app, if_pos hy.symm, h2]; unfold mn; omega⟩
        · refine Or.inr ⟨d, by rw [first_app, if_neg hy, h1], fun acc => by rw [minOf_app, if_neg (fun e => hy e.symm), h2]⟩
theorem first_mem : ∀ (n : Nat) (p : List S56), p.length = n → ∀ x ∈ p, ∃ d, firstM p x.f0 = some d ∧ d ≤ x.f2 := by
  intro n
  induction n with
  | zero =>
    intro p hp x hx
    rw [List.eq_nil_of_length_eq_zero hp] at hx
    cases hx
  | succ n ih =>
    intro p hp x hx
    rcases nil_or_snoc p with h | ⟨q, y, rfl⟩
    · subst h; simp at hp
    · have hq : q.length = n := by simpa using hp
      rw [first_app]
      rcases List.mem_append.1 hx with hx | hx
      · obtain ⟨d, h1, h2⟩ := ih q hq x hx
        by_cases hy : x.f0 = y.f0
        · rw [if_pos hy, h1]
          by_cases hd : y.f2 < d
          · exact ⟨y.f2, by simp [hd], by omega⟩
          · exact ⟨d, by simp [hd], h2⟩
        · rw [if_neg hy]
          exact ⟨d, h1, h2⟩
      · have hxy : x = y := by simpa using hx
        subst hxy
        rw [if_pos rfl]
        cases hf : firstM q x.f0 with
        | none => exact ⟨x.f2, rfl, Int.le_refl _⟩
        | some d =>
          by_cases hd : x.f2 < d
          · exact ⟨x.f2, by simp [hd], Int.le_refl _⟩
          · exact ⟨d, by simp [hd], by omega⟩
theorem min_mapD {l : List S56} {x : S56} (hx : x ∈ l) : minOf x.f0 l x.f2 = mapD l x.f0 := by
  obtain ⟨d, h1, h2⟩ := first_mem _ l rfl x hx
  rcases min_first x.f0 _ l rfl with ⟨h3, _⟩ | ⟨d', h3, h4⟩
  · rw [h3] at h1; cases h1
  · rw [h3] at h1
    obtain rfl := Option.some.inj h1
    rw [h4, mapD, h3]
    unfold mn
    simp only [Option.getD_some]
    omega
def ltF (l : List S56) (a b : Int) : Bool := decide (mapD l (rd_T56 l a).f0 < mapD l (rd_T56 l b).f0 ∨ mapD l (rd_T56 l a).f0 = mapD l (rd_T56 l b).f0 ∧ ((rd_T56 l a).f0 < (rd_T56 l b).f0 ∨ (rd_T56 l a).f0 = (rd_T56 l b).f0 ∧ (rd_T56 l a).f2 < (rd_T56 l b).f2))
theorem ltF_O (l : List S56) : ∀ x y z, ltF l x y = true → ltF l z y = false → ltF l x z = true := by
  intro x y z h1 h2
  simp only [ltF, decide_eq_true_eq, decide_eq_false_iff_not] at h1 h2 ⊢
  omega
theorem ltF_A (l : List S56) : ∀ x y, ltF l x y = true → ltF l y x = false := by
  intro x y h1
  simp only [ltF, decide_eq_true_eq, decide_eq_false_iff_not] at h1 ⊢
  omega
theorem cmpF (a b : Int) : ∃ t : Int, cmp_Compare_int64.f a b = some t ∧ (a < b ∧ t = -1 ∨ a = b ∧ t = 0 ∨ b < a ∧ t = 1) := by
  simp only [cmp_Compare_int64.f, cmp_isNaN_int64.f, Option.bind_some, bne_self_eq_false, Bool.false_eq_true, if_false]
  by_cases h : a < b
  · exact ⟨-1, by simp only [if_pos h], by omega⟩
  · by_cases h' : a > b
    · exact ⟨1, by simp only [if_neg h, if_pos h'], by omega⟩
    · exact ⟨0, by simp only [if_neg h, if_neg h'], by omega⟩
theorem or_three (a b c : Int) : Ev (fun k => cmp_Or_int.f k [a, b, c]) (if a = 0 then (if b = 0 then c else b) else a) := by
  simp only [cmp_Or_int.f]
  have r0 : rd [a, b, c] 0 = a := rfl
  have r1 : rd [a, b, c] 1 = b := rfl
  have r2 : rd [a, b, c] 2 = c := rfl
  have l3 : (([a, b, c] : List Int).length : Int) = 3 := rfl
  refine Ev.step (fun k => by rw [cmp_Or_int.l0]) ?_
  simp only [l3, r0, if_pos (show (0 : Int) < 3 by decide), if_pos (show (0 : Int) ≤ 0 by decide)]
  by_cases h0 : a = 0
  · simp only [if_pos h0, show wrap64 ((0 : Int) + 1) = 1 from w64 (by omega) (by omega)]
    refine Ev.step (fun k => by rw [cmp_Or_int.l0]) ?_
    simp only [l3, r1, if_pos (show (1 : Int) < 3 by decide), if_pos (show (0 : Int) ≤ 1 by decide)]
    by_cases h1 : b = 0
    · simp only [if_pos h1, show wrap64 ((1 : Int) + 1) = 2 from w64 (by omega) (by omega)]
      refine Ev.step (fun k => by rw [cmp_Or_int.l0]) ?_
      simp only [l3, r2, if_pos (show (2 : Int) < 3 by decide), if_pos (show (0 : Int) ≤ 2 by decide)]
      by_cases h2 : c = 0
      · simp only [if_pos h2, show wrap64 ((2 : Int) + 1) = 3 from w64 (by omega) (by omega)]
        refine Ev.step (fun k => by rw [cmp_Or_int.l0]) ?_
        simp only [l3, if_neg (show ¬ (3 : Int) < 3 by decide)]
        exact ev_eq (Ev.now _) h2.symm
      · simp only [if_neg h2]
        exact Ev.now _
    · simp only [if_neg h1]
      exact Ev.now _
  · simp only [if_neg h0]
    exact Ev.now _
theorem shop_at {l : List S56} (hok : ∀ x ∈ l, okShop x = true) {i : Int} (h0 : 0 ≤ i) (h1 : i < (l.length : Int)) : rd_T56 l i ∈ l ∧ (0 ≤ (rd_T56 l i).f0 ∧ (rd_T56 l i).f0 ≤ 9) := by
  have hi : i.toNat < l.length := by omega
  have hm : rd_T56 l i ∈ l := by
    unfold rd_T56
    rw [List.getD_eq_getElem?_getD, List.getElem?_eq_getElem hi]
    exact List.getElem_mem hi
  have := hok _ hm
  simp only [okShop, Bool.and_eq_true, inR_iff] at this
  exact ⟨hm, by omega⟩
theorem wf_small {x : Int} (h0 : 0 ≤ x) (h1 : x ≤ 1000000) : (Lit.int .i64 x).wf = true := by
  simp only [Lit.wf, IntKind.min, IntKind.max, IntKind.signed, IntKind.bits, Bool.and_eq_true, decide_eq_true_eq, if_true]
  omega
theorem cmp_fam (l : List S56) (hok : ∀ x ∈ l, okShop x = true) (a b : Int) (ha : 0 ≤ a) (ha1 : a < (l.length : Int)) (hb : 0 ≤ b) (hb1 : b < (l.length : Int)) : ∃ t : Int, Ev (fun k => impl_FamilyOrder_1.f k a b l) t ∧ (t < 0 ↔ ltF l a b = true) := by
  obtain ⟨_, ra⟩ := shop_at hok ha ha1
  obtain ⟨_, rb⟩ := shop_at hok hb hb1
  simp only [impl_FamilyOrder_1.f, if_pos ha, if_pos ha1, if_pos hb, if_pos hb1, ltF, mapAt.f, if_pos (wf_small ra.1 (by omega)), if_pos (wf_small rb.1 (by omega)), Option.bind_some]
  generalize rd_T56 l a = x
  generalize rd_T56 l b = y
  obtain ⟨t1, e1, g1⟩ := cmpF ((firstM l x.f0).getD 0) ((firstM l y.f0).getD 0)
  obtain ⟨t2, e2, g2⟩ := cmpF x.f0 y.f0
  obtain ⟨t3, e3, g3⟩ := cmpF x.f2 y.f2
  simp only [e1, e2, e3, Option.bind_some]
  refine ⟨_, Ev.bind (or_three t1 t2 t3) (Ev.now _), ?_⟩
  simp only [decide_eq_true_eq]
  simp only [mapD]
  constructor <;> intro hh <;> split at * <;> first | omega | (split at * <;> omega)
theorem less_three (a b c d e f : Int) : Ev (fun k => spec_l01Less.f k [a, b, c] [d, e, f]) (decide (a < d ∨ a = d ∧ (b < e ∨ b = e ∧ c < f))) := by
  simp only [spec_l01Less.f]
  have r0 : rd [a, b, c] 0 = a := rfl
  have r1 : rd [d, e, f] 0 = d := rfl
  have r2 : rd [a, b, c] 1 = b := rfl
  have r3 : rd [d, e, f] 1 = e := rfl
  have r4 : rd [a, b, c] 2 = c := rfl
  have r5 : rd [d, e, f] 2 = f := rfl
  have l2 : (([a, b, c] : List Int).length : Int) = 3 := rfl
  have l3 : (([d, e, f] : List Int).length : Int) = 3 := rfl
  refine Ev.step (fun k => by rw [spec_l01Less.l0]) ?_
  simp only [l2, l3, if_pos (show (0 : Int) < 3 by decide), decide_eq_true (show (0 : Int) < 3 by decide)]
  refine Ev.step (fun k => by rw [spec_l01Less.j1]) ?_
  simp only [if_true, if_pos (show (0 : Int) ≤ 0 by decide), l2, l3, if_pos (show (0 : Int) < 3 by decide), r0, r1]
  by_cases h : a = d
  · simp only [if_pos h]
    rw [show wrap64 ((0 : Int) + 1) = 1 from w64 (by omega) (by omega)]
    refine Ev.step (fun k => by rw [spec_l01Less.l0]) ?_
    simp only [l2, l3, if_pos (show (1 : Int) < 3 by decide), decide_eq_true (show (1 : Int) < 3 by decide)]
    refine Ev.step (fun k => by rw [spec_l01Less.j1]) ?_
    simp only [if_true, if_pos (show (0 : Int) ≤ 1 by decide), l2, l3, if_pos (show (1 : Int) < 3 by decide), r2, r3]
    by_cases h' : b = e
    · simp only [if_pos h']
      rw [show wrap64 ((1 : Int) + 1) = 2 from w64 (by omega) (by omega)]
      refine Ev.step (fun k => by rw [spec_l01Less.l0]) ?_
      simp only [l2, l3, if_pos (show (2 : Int) < 3 by decide), decide_eq_true (show (2 : Int) < 3 by decide)]
      refine Ev.step (fun k => by rw [spec_l01Less.j1]) ?_
      simp only [if_true, if_pos (show (0 : Int) ≤ 2 by decide), l2, l3, if_pos (show (2 : Int) < 3 by decide), r4, r5]
      by_cases h2 : c = f
      · simp only [if_pos h2]
        rw [show wrap64 ((2 : Int) + 1) = 3 from w64 (by omega) (by omega)]
        refine Ev.step (fun k => by rw [spec_l01Less.l0]) ?_
        simp only [l2, if_neg (show ¬ (3 : Int) < 3 by decide)]
        refine Ev.step (fun k => by rw [spec_l01Less.j1]) ?_
        simp only [Bool.false_eq_true, if_false, l2, l3]
        exact ev_eq (Ev.now _) (decide_eq_decide.2 (by omega))
      · simp only [if_neg h2]
        exact ev_eq (Ev.now _) (decide_eq_decide.2 (by omega))
    · simp only [if_neg h']
      exact ev_eq (Ev.now _) (decide_eq_decide.2 (by omega))
  · simp only [if_neg h]
    exact ev_eq (Ev.now _) (decide_eq_decide.2 (by omega))
def key3 (l : List S56) (x : S56) : List Int := [mapD l x.f0, x.f0, x.f2]
theorem key3_at {l : List S56} {i : Int} (h0 : 0 ≤ i) (h1 : i < (l.length : Int)) : rd_L2 (l.map (key3 l)) i = [mapD l (rd_T56 l i).f0, (rd_T56 l i).f0, (rd_T56 l i).f2] := by
  have hi : i.toNat < l.length := by omega
  unfold rd_L2 rd_T56
  simp [List.getD_eq_getElem?_getD, hi, key3]
theorem fam_insert {l p s : List S56} {x : S56} (he : l = p ++ x :: s) (hl : l.length ≤ 1048576) (q : List Int) (hq : q.length = p.length) (hm : ∀ z ∈ q, 0 ≤ z ∧ z < (p.length : Int)) : Ev (fun k => spec_l20Insert.f k q (l.map (key3 l)) (p.length : Int)) (insF (ltF l) (p.length : Int) q) := by
  simp only [spec_l20Insert.f]
  have hkl : (l.map (key3 l)).length = l.length := by simp
  have hpl := mid_lt he
  have hfin : ∀ (u v : List Int), q = u ++ v → Ev (fun _ : Nat => (spec_l01Own.f (q.take ((u.length : Int)).toNat)).bind fun t145 => ((some (([(p.length : Int)] : List Int) : List Int)).bind fun y148 => (if t145.length + y148.length < 17592186044416 then ((some (t145 ++ y148 : List Int)).bind fun y151 => (if y151.length + (q.drop ((u.length : Int)).toNat).length < 17592186044416 then (some (y151 ++ (q.drop ((u.length : Int)).toNat))) else (none))) else (none)))) (u ++ (p.length : Int) :: v) := by
    intro u v e
    have e1 : q.take ((u.length : Int)).toNat = u := by rw [e, Int.toNat_natCast]; simp
    have e2 : q.drop ((u.length : Int)).toNat = v := by rw [e, Int.toNat_natCast]; simp
    have el := congrArg List.length e
    simp only [List.length_append] at el
    simp only [e1, e2, spec_l01Own.f, Option.bind_some, List.length_nil, List.nil_append, if_pos (show 0 + u.length < 17592186044416 by omega), List.length_singleton, if_pos (show u.length + 1 < 17592186044416 by omega), List.length_append, if_pos (show u.length + 1 + v.length < 17592186044416 by omega)]
    exact ev_eq (Ev.now _) (by simp)
  refine loop_list q (fun u v => Ev (fun k => spec_l20Insert.l0 k q (l.map (key3 l)) (p.length : Int) (u.length : Int)) (u ++ insF (ltF l) (p.length : Int) v)) ?_ ?_
  · refine Ev.step (fun k => by rw [spec_l20Insert.l0]) ?_
    simp only [if_neg (nlt_self q), if_pos (nat_nn q.length), if_pos (Int.le_refl (q.length : Int))]
    exact hfin q [] (by simp)
  · intro u y v e ih
    have hu := mid_lt e
    have hy := hm y (by rw [e]; simp)
    have ry : rd q (u.length : Int) = y := mid_get e 0
    have k1 := key3_at (nat_nn p.length) hpl
    have k2 := key3_at (l := l) hy.1 (by omega)
    refine Ev.step (fun k => by rw [spec_l20Insert.l0]) ?_
    simp only [if_pos hu, if_pos (nat_nn p.length), hkl, if_pos hpl, if_pos (nat_nn u.length), ry, if_pos hy.1, if_pos (show y < (l.length : Int) by omega), k1, k2]
    refine Ev.bind (a := ltF l (p.length : Int) y) (less_three _ _ _ _ _ _) ?_
    by_cases hlt : ltF l (p.length : Int) y = true
    · simp only [hlt, if_true, if_pos (show (u.length : Int) ≤ (q.length : Int) by omega), insF, if_pos hlt]
      exact hfin u (y :: v) e
    · simp only [if_neg hlt, mid_next e (by omega), insF]
      simpa using ih
theorem spec_fam (l : List S56) (h7 : l.length ≤ 1000) : Ev (fun k => spec_FamilyOrder.l0 k l [] 0) (sortF (ltF l) l.length, 0) := by
  have H2 : Ev (fun k => spec_FamilyOrder.l2 k l (l.map (key3 l)) [] 0) (sortF (ltF l) l.length, 0) := by
    refine loop_list l (fun p s => Ev (fun k => spec_FamilyOrder.l2 k l (l.map (key3 l)) (sortF (ltF l) p.length) (p.length : Int)) (sortF (ltF l) l.length, 0)) ?_ ?_
    · refine Ev.step (fun k => by rw [spec_FamilyOrder.l2]) ?_
      simp only [if_neg (nlt_self l)]
      exact Ev.now _
    · intro p x s he ih
      have hp := mid_lt he
      refine Ev.step (fun k => by rw [spec_FamilyOrder.l2]) ?_
      simp only [if_pos hp, mid_next he (by omega)]
      refine Ev.bind (fam_insert he (by omega) (sortF (ltF l) p.length) (sortF_length _ _) (fun z hz => sortF_mem hz)) ?_
      have e : sortF (ltF l) (p ++ [x]).length = insF (ltF l) (p.length : Int) (sortF (ltF l) p.length) := by
        rw [show (p ++ [x]).length = p.length + 1 by simp]; rfl
      rw [e] at ih
      exact ih
  refine loop_list l (fun p s => Ev (fun k => spec_FamilyOrder.l0 k l (p.map (key3 l)) (p.length : Int)) (sortF (ltF l) l.length, 0)) ?_ ?_
  · refine Ev.step (fun k => by rw [spec_FamilyOrder.l0]) ?_
    simp only [if_neg (nlt_self l)]
    exact H2
  · intro p x s he ih
    have hp := mid_lt he
    have hx : rd_T56 l (p.length : Int) = x := by unfold rd_T56; exact mid_get he _
    have hmem : x ∈ l := by rw [he]; simp
    refine Ev.step (fun k => by rw [spec_FamilyOrder.l0]) ?_
    simp only [if_pos hp, if_pos (nat_nn p.length), hx]
    refine loop_list l (fun q t => Ev (fun k => spec_FamilyOrder.l1 k l (p.map (key3 l)) (p.length : Int) (minOf x.f0 q x.f2) (q.length : Int)) (sortF (ltF l) l.length, 0)) ?_ ?_
    · refine Ev.step (fun k => by rw [spec_FamilyOrder.l1]) ?_
      have ek : p.map (key3 l) ++ [[minOf x.f0 l x.f2, x.f0, x.f2]] = (p ++ [x]).map (key3 l) := by
        rw [min_mapD hmem]
        simp [key3]
      simp only [if_neg (nlt_self l), if_pos (nat_nn p.length), if_pos hp, List.length_map, if_pos (show p.length < 5864062014805 by omega), hx, ek, mid_next he (by omega)]
      exact ih
    · intro q y t he' ih'
      have hq := mid_lt he'
      have hy : rd_T56 l (q.length : Int) = y := by unfold rd_T56; exact mid_get he' _
      refine Ev.step (fun k => by rw [spec_FamilyOrder.l1]) ?_
      simp only [if_pos hq, if_pos (nat_nn q.length), if_pos (nat_nn p.length), if_pos hp, hx, hy, mid_next he' (by omega)]
      rw [minOf_app] at ih'
      by_cases h : y.f0 = x.f0
      · rw [if_pos h] at ih'
        simp only [if_pos h]
        exact ih'
      · rw [if_neg h] at ih'
        simp only [if_neg h]
        exact ih'
theorem shopB_all {a : Int} {l : List S56} (hs : shopB a l = true) : (∀ x ∈ l, okShop x = true) ∧ inR a 0 100000 = true ∧ l.length ≤ 7 := by
  simpa only [shopB, Bool.and_eq_true, List.all_eq_true, decide_eq_true_eq] using hs
theorem fam_told (a : Int) (l : List S56) (h : l.length ≤ 1048576) : ∃ r : List Int × Int, Ev (fun k => spec_FamilyOrder.f k a l) r ∧ Ev (fun k => impl_FamilyOrder.f k a l) r ∧ r = if shopB a l = true then (sortF (ltF l) l.length, 0) else ([], 1) := by
  simp only [spec_FamilyOrder.f, impl_FamilyOrder.f]
  have s1 := spec_IsShop a l h
  have i1 := impl_IsShop a l h
  cases hc : shopB a l <;> rw [hc] at s1 i1
  · exact ⟨([], 1), Ev.bind s1 (by simp only [Bool.false_eq_true, if_false]; exact Ev.now _), Ev.bind i1 (by simp only [Bool.false_eq_true, if_false]; exact Ev.now _), by simp⟩
  · obtain ⟨hok, _, h7⟩ := shopB_all hc
    have hwf : (l.all fun x => (Lit.int .i64 x.f0).wf && (Lit.int .i64 x.f2).wf) = true := by
      rw [List.all_eq_true]
      intro x hx
      have := hok x hx
      simp only [okShop, Bool.and_eq_true, inR_iff] at this
      rw [wf_small (by omega) (by omega), wf_small (by omega) (by omega)]
      rfl
    refine ⟨(sortF (ltF l) l.length, 0), Ev.bind s1 (by simp only [if_true]; exact spec_fam l (by omega)), Ev.bind i1 ?_, by simp⟩
    simp only [if_true, if_pos hwf, if_pos (show l.length ≤ 1000000 by omega)]
    exact Ev.bind (sorted_impl_FamilyOrder_1 (cmp_fam l hok) (ltF_O l) (ltF_A l) h7) (Ev.now _)
theorem ev_det {α : Type} {g : Nat → Option α} {r r' : α} (h : Ev g r) (h' : Ev g r') : r = r' := by
  obtain ⟨k, hk⟩ := h
  obtain ⟨k', hk'⟩ := h'
  have h1 := hk (max k k') (Nat.le_max_left _ _)
  have h2 := hk' (max k k') (Nat.le_max_right _ _)
  rw [h1] at h2
  exact Option.some.inj h2
/-- The families that the machine is set up for, one after another. -/
def chgF (l : List S56) : Int → List Int → List Int
  | _, [] => []
  | f, x :: t => if (rd_T56 l x).f0 = f then chgF l f t else (rd_T56 l x).f0 :: chgF l (rd_T56 l x).f0 t
theorem work_gen {a : Int} {l : List S56} {o : List Int} (hs : shopB a l = true) (hn : o.Nodup) (hm : ∀ x ∈ o, 0 ≤ x ∧ x < (l.length : Int)) (hol : o.length = l.length) : ∃ d, Ev (fun k => impl_work.f k a l o) (d, ((chgF l (-1) o).length : Int)) ∧ Ev (fun k => spec_l20Done.f k a l o) (d, ((chgF l (-1) o).length : Int)) ∧ d.length = l.length ∧
    (a = 0 → ∀ p x t, o = p ++ x :: t → rd d x = sumI (minF l) (p ++ [x])) := by
  obtain ⟨a0, a1, hl7⟩ := shop_a hs
  simp only [spec_l20Done.f, impl_work.f, if_pos (nat_nn l.length), Int.toNat_natCast, if_pos (show l.length ≤ 35184372088832 by omega)]
  refine loop_list o (fun p t => ∀ (x8 : List Int) (x9 x10 x11 : Int), x8.length = l.length → 0 ≤ x9 → x9 ≤ 200000 * (p.length : Int) → 0 ≤ x11 → x11 ≤ (p.length : Int) → (a = 0 → x9 = sumI (minF l) p ∧ ∀ q y r, p = q ++ y :: r → rd x8 y = sumI (minF l) (q ++ [y])) →
    ∃ d, Ev (fun k => impl_work.l0 k a l x8 x9 x10 x11 o (o.length : Int) (p.length : Int)) (d, x11 + ((chgF l x10 t).length : Int)) ∧ Ev (fun k => spec_l20Done.l0 k a l o x8 x9 x10 x11 (p.length : Int)) (d, x11 + ((chgF l x10 t).length : Int)) ∧ d.length = l.length ∧
    (a = 0 → ∀ q y r, o = q ++ y :: r → rd d y = sumI (minF l) (q ++ [y]))) ?_ ?_ (List.replicate l.length 0) 0 (-1) 0 (by simp) (by omega) (by simp) (by omega) (by simp) (fun _ => ⟨rfl, fun q y r e => by simp at e⟩) |> fun h => by simpa using h
  · intro x8 x9 x10 x11 h8 k0 k1 k2 k3 hr
    refine ⟨x8, Ev.step (fun k => by rw [impl_work.l0]) ?_, Ev.step (fun k => by rw [spec_l20Done.l0]) ?_, h8, fun h => (hr h).2⟩
    · simp only [if_neg (nlt_self o)]; exact ev_eq (Ev.now _) (by simp [chgF])
    · simp only [if_neg (nlt_self o)]; exact ev_eq (Ev.now _) (by simp [chgF])
  · intro p x t he ih x8 x9 x10 x11 h8 k0 k1 k2 k3 hr
    have hx : rd o (p.length : Int) = x := mid_get he 0
    have hxr := hm x (by rw [he]; simp)
    obtain ⟨j0, j1, j2, _, _⟩ := job_ok hs hxr.1 hxr.2
    have hp := mid_lt he
    have ej : (rd_T56 l x).f1 = minF l x := rfl
    have hnx : x ∉ p := by
      rw [he] at hn
      obtain ⟨_, _, hd⟩ := List.nodup_append.1 hn
      intro hxp
      exact hd x hxp x (by simp) rfl
    have hset : ∀ v : Int, (a = 0 → v = sumI (minF l) p + minF l x) → (a = 0 → v = sumI (minF l) (p ++ [x]) ∧ ∀ q y r, p ++ [x] = q ++ y :: r → rd (x8.set x.toNat v) y = sumI (minF l) (q ++ [y])) := by
      intro v hv ha
      obtain ⟨e9, hq⟩ := hr ha
      refine ⟨by rw [sumI_snoc, hv ha], fun q y r e => ?_⟩
      rcases nil_or_snoc r with hr' | ⟨r', z, rfl⟩
      · subst hr'
        obtain ⟨rfl, e2⟩ := List.append_inj' e rfl
        obtain rfl : x = y := by simpa using e2
        have hi : rd (x8.set x.toNat v) ((x.toNat : Nat) : Int) = v := by rw [rd_set (by omega) hxr.1, if_pos (by omega)]
        rw [show ((x.toNat : Nat) : Int) = x by omega] at hi
        rw [hi, sumI_snoc, hv ha]
      · have e2 : p ++ [x] = (q ++ y :: r') ++ [z] := by rw [e]; simp
        obtain ⟨e3, _⟩ := List.append_inj' e2 rfl
        have hy : y ∈ p := by rw [e3]; simp
        have hyr := hm y (by rw [he]; simp [hy])
        have hi : rd (x8.set x.toNat v) ((y.toNat : Nat) : Int) = rd x8 ((y.toNat : Nat) : Int) := by
          rw [rd_set (by omega) hxr.1, if_neg (fun e => hnx (by rw [show x = y by omega]; exact hy))]
        rw [show ((y.toNat : Nat) : Int) = y by omega] at hi
        rw [hi]
        exact hq q y r' e3
    by_cases hf : (rd_T56 l x).f0 = x10
    · have e9 : wrap64 (x9 + (rd_T56 l x).f1) = x9 + minF l x := by rw [ej]; exact w64 (by omega) (by omega)
      obtain ⟨d, r1, r2, r3, r4⟩ := ih (x8.set x.toNat (x9 + minF l x)) (x9 + minF l x) x10 x11 (by simpa using h8) (by omega) (by simp; omega) k2 (by simp; omega) (hset _ (fun ha => by rw [(hr ha).1]))
      have ec : chgF l x10 (x :: t) = chgF l x10 t := by simp only [chgF, if_pos hf]
      refine ⟨d, Ev.step (fun k => by rw [impl_work.l0]) ?_, Ev.step (fun k => by rw [spec_l20Done.l0]) ?_, r3, r4⟩ <;> simp only [if_pos hp, if_pos (nat_nn p.length), hx, if_pos hxr.1, if_pos hxr.2, if_pos (show x < (x8.length : Int) by omega), if_pos hf, mid_next he (by omega), e9, ec]
      · exact r1
      · rw [hf]; exact r2
    · have e8 : wrap64 (x9 + a) = x9 + a := w64 (by omega) (by omega)
      have e9 : wrap64 (x9 + a + (rd_T56 l x).f1) = x9 + a + minF l x := by rw [ej]; exact w64 (by omega) (by omega)
      have e11 : wrap64 (x11 + 1) = x11 + 1 := w64 (by omega) (by omega)
      obtain ⟨d, r1, r2, r3, r4⟩ := ih (x8.set x.toNat (x9 + a + minF l x)) (x9 + a + minF l x) (rd_T56 l x).f0 (x11 + 1) (by simpa using h8) (by omega) (by simp; omega) (by omega) (by simp; omega) (hset _ (fun ha => by rw [(hr ha).1, ha]; omega))
      have ec : x11 + ((chgF l x10 (x :: t)).length : Int) = x11 + 1 + ((chgF l (rd_T56 l x).f0 t).length : Int) := by simp only [chgF, if_neg hf, List.length_cons]; omega
      refine ⟨d, Ev.step (fun k => by rw [impl_work.l0]) ?_, Ev.step (fun k => by rw [spec_l20Done.l0]) ?_, r3, r4⟩ <;> simp only [if_pos hp, if_pos (nat_nn p.length), hx, if_pos hxr.1, if_pos hxr.2, if_pos (show x < (x8.length : Int) by omega), if_neg hf, mid_next he (by omega), e8, e9, e11, ec]
      · exact r1
      · exact r2
theorem ins_impl_dueOrder_1 {l : List S56} {lt : Int → Int → Bool} (hcmp : ∀ a b : Int, 0 ≤ a → a < (l.length : Int) → 0 ≤ b → b < (l.length : Int) → ∃ t : Int, impl_dueOrder_1.f a b l = some t ∧ (t < 0 ↔ lt a b = true)) (hO : ∀ x y z, lt x y = true → lt z y = false → lt x z = true)
    {x : Int} (hx0 : 0 ≤ x) (hx1 : x < (l.length : Int)) (n i : Int) {r : List Int} (rest : List Int) : ∀ (d : Nat) (u v : List Int), u.length = d → (u ++ v).length + rest.length ≤ 1000000 → srtd lt (u ++ v) → (∀ z ∈ u ++ v, 0 ≤ z ∧ z < (l.length : Int)) → (v = [] ∨ ∃ y t, v = y :: t ∧ lt x y = true) →
    Ev (fun k => slices_insertionSortCmpFunc_at_impl_dueOrder_1.l0 k (insF lt x (u ++ v) ++ rest) 0 n l (wrap64 (i + 1))) r → Ev (fun k => slices_insertionSortCmpFunc_at_impl_dueOrder_1.l1 k (u ++ x :: (v ++ rest)) 0 n l i (u.length : Int)) r := by
  intro d
  induction d with
  | zero =>
    intro u v hu hl hs hm hv h
    have : u = [] := List.eq_nil_of_length_eq_zero hu
    subst this
    rw [insF_at [] v (fun w hw => by cases hw) hv] at h
    refine Ev.step (fun k => by rw [slices_insertionSortCmpFunc_at_impl_dueOrder_1.l1]) ?_
    simp only [if_neg (show ¬ (((([] : List Int).length : Nat) : Int) > 0) by simp)]
    simpa using h
  | succ d ih =>
    intro u v hu hl hs hm hv h
    rcases nil_or_snoc u with rfl | ⟨u, y, rfl⟩
    · simp at hu
    · have hul : u.length = d := by simpa using hu
      have hy := hm y (by simp)
      have hpl : ((u ++ [y]).length : Int) = (u.length : Int) + 1 := by simp
      have hlen : ((u ++ [y] ++ x :: (v ++ rest)).length : Int) = (u.length : Int) + 2 + (v.length : Int) + (rest.length : Int) := by simp; omega
      have hl' : u.length + 1 + v.length + rest.length ≤ 1000000 := by simpa [Nat.add_assoc, Nat.add_comm, Nat.add_left_comm] using hl
      have e1 : wrap64 ((u.length : Int) + 1 - 1) = (u.length : Int) := by rw [show (u.length : Int) + 1 - 1 = (u.length : Int) by omega]; exact w64 (by omega) (by omega)
      have g1 : rd (u ++ [y] ++ x :: (v ++ rest)) ((u.length : Int) + 1) = x := by
        rw [← hpl]; exact get_mid _ _ _ 0
      have g2 : rd (u ++ [y] ++ x :: (v ++ rest)) (u.length : Int) = y := by
        rw [show u ++ [y] ++ x :: (v ++ rest) = u ++ y :: (x :: (v ++ rest)) by simp]; exact get_mid _ _ _ 0
      obtain ⟨t, ht, hlt⟩ := hcmp x y hx0 hx1 hy.1 hy.2
      refine Ev.step (fun k => by rw [slices_insertionSortCmpFunc_at_impl_dueOrder_1.l1]) ?_
      simp only [hpl, if_pos (show (u.length : Int) + 1 > 0 by omega), if_pos (show 0 ≤ (u.length : Int) + 1 by omega), hlen, if_pos (show (u.length : Int) + 1 < (u.length : Int) + 2 + (v.length : Int) + (rest.length : Int) by omega), e1, if_pos (nat_nn u.length), if_pos (show (u.length : Int) < (u.length : Int) + 2 + (v.length : Int) + (rest.length : Int) by omega), g1, g2, ht, Option.bind_some]
      by_cases hc : lt x y = true
      · simp only [if_pos (hlt.2 hc)]
        have s1 : ((u ++ [y] ++ x :: (v ++ rest)).set (((u.length : Int) + 1)).toNat y).set ((u.length : Int)).toNat x = u ++ x :: ((y :: v) ++ rest) := by
          rw [← hpl, set_mid, show u ++ [y] ++ y :: (v ++ rest) = u ++ y :: (y :: (v ++ rest)) by simp, set_mid]
          simp
        rw [s1]
        refine ih u (y :: v) hul (by simpa [Nat.add_assoc, Nat.add_comm, Nat.add_left_comm] using hl) (by simpa using hs) (fun z hz => hm z (by simpa using hz)) (Or.inr ⟨y, v, rfl, hc⟩) ?_
        simpa using h
      · have hc' := Bool.eq_false_iff.2 hc
        simp only [if_neg (fun h => hc (hlt.1 h))]
        rw [insF_at (u ++ [y]) v (srtd_all hO (by simpa using hs) hc') hv] at h
        simpa using h
theorem sort_impl_dueOrder_1 {l : List S56} {lt : Int → Int → Bool} (hcmp : ∀ a b : Int, 0 ≤ a → a < (l.length : Int) → 0 ≤ b → b < (l.length : Int) → ∃ t : Int, impl_dueOrder_1.f a b l = some t ∧ (t < 0 ↔ lt a b = true)) (hO : ∀ x y z, lt x y = true → lt z y = false → lt x z = true) (hA : ∀ x y, lt x y = true → lt y x = false)
    : ∀ (m i : Nat), i + m = l.length → l.length ≤ 1000 → Ev (fun k => slices_insertionSortCmpFunc_at_impl_dueOrder_1.l0 k (sortF lt i ++ numsI (i : Int) m) 0 (l.length : Int) l (i : Int)) (sortF lt l.length) := by
  intro m
  induction m with
  | zero =>
    intro i hi hl
    have : i = l.length := by omega
    subst this
    refine Ev.step (fun k => by rw [slices_insertionSortCmpFunc_at_impl_dueOrder_1.l0]) ?_
    simp only [if_neg (nlt_self l), numsI, List.append_nil]
    exact Ev.now _
  | succ m ih =>
    intro i hi hl
    refine Ev.step (fun k => by rw [slices_insertionSortCmpFunc_at_impl_dueOrder_1.l0]) ?_
    simp only [if_pos (show (i : Int) < (l.length : Int) by omega), numsI]
    have hn := ih (i + 1) (by omega) hl
    have := ins_impl_dueOrder_1 hcmp hO (x := (i : Int)) (by omega) (by omega) (l.length : Int) (i : Int) (r := sortF lt l.length) (numsI ((i : Int) + 1) m) i (sortF lt i) [] (sortF_length lt i) (by simp [sortF_length, numsI_length]; omega) (by simpa using sortF_srtd hO hA i) (fun z hz => by
      have := sortF_mem (by simpa using hz : z ∈ sortF lt i)
      omega) (Or.inl rfl) (by
      rw [w64 (by omega) (by omega), List.append_nil]
      have e : ((i + 1 : Nat) : Int) = (i : Int) + 1 := by omega
      rw [e] at hn
      exact hn)
    rw [sortF_length] at this
    simpa using this
theorem sorted_impl_dueOrder_1 {l : List S56} {lt : Int → Int → Bool} (hcmp : ∀ a b : Int, 0 ≤ a → a < (l.length : Int) → 0 ≤ b → b < (l.length : Int) → ∃ t : Int, impl_dueOrder_1.f a b l = some t ∧ (t < 0 ↔ lt a b = true)) (hO : ∀ x y z, lt x y = true → lt z y = false → lt x z = true) (hA : ∀ x y, lt x y = true → lt y x = false)
    (h7 : l.length ≤ 7) : Ev (fun k => impl_sortedBy_at_impl_dueOrder_1.f k (l.length : Int) l) (sortF lt l.length) := by
  have hs : Ev (fun k => slices_SortStableFunc_at_impl_dueOrder_1.f k (numsI 0 l.length) l) (sortF lt l.length) := by
    simp only [slices_SortStableFunc_at_impl_dueOrder_1.f]
    refine Ev.bind (a := sortF lt l.length) ?_ (Ev.now _)
    simp only [slices_stableCmpFunc_at_impl_dueOrder_1.f, numsI_length]
    refine Ev.step (fun k => by rw [slices_stableCmpFunc_at_impl_dueOrder_1.l0]) ?_
    simp only [if_neg (show ¬ ((20 : Int) ≤ (l.length : Int)) by omega)]
    refine Ev.bind (a := sortF lt l.length) ?_ ?_
    · simp only [slices_insertionSortCmpFunc_at_impl_dueOrder_1.f]
      rw [show wrap64 ((0 : Int) + 1) = ((1 : Nat) : Int) from w64 (by omega) (by omega)]
      by_cases h0 : l.length = 0
      · rw [h0]
        refine Ev.step (fun k => by rw [slices_insertionSortCmpFunc_at_impl_dueOrder_1.l0]) ?_
        simp only [if_neg (show ¬ (((1 : Nat) : Int) < ((0 : Nat) : Int)) by omega), numsI, sortF]
        exact Ev.now _
      · have := sort_impl_dueOrder_1 hcmp hO hA (l.length - 1) 1 (by omega) (by omega)
        have e : numsI 0 l.length = sortF lt 1 ++ numsI ((1 : Nat) : Int) (l.length - 1) := by
          rw [show l.length = (l.length - 1) + 1 by omega]
          simp [numsI, sortF, insF]
        rw [← e] at this
        exact this
    · refine Ev.step (fun k => by rw [slices_stableCmpFunc_at_impl_dueOrder_1.l1]) ?_
      simp only [if_neg (show ¬ ((20 : Int) < (l.length : Int)) by omega)]
      exact Ev.now _
  simp only [impl_sortedBy_at_impl_dueOrder_1.f]
  have H : ∀ (m : Nat) (acc : List Int) (i : Int), 0 ≤ i → i + (m : Int) = (l.length : Int) → (acc.length : Int) = i → acc ++ numsI i m = numsI 0 l.length → Ev (fun k => impl_sortedBy_at_impl_dueOrder_1.l0 k l acc (l.length : Int) i) (sortF lt l.length) := by
    intro m
    induction m with
    | zero =>
      intro acc i h0 hi ha he
      refine Ev.step (fun k => by rw [impl_sortedBy_at_impl_dueOrder_1.l0]) ?_
      simp only [if_neg (show ¬ (i < (l.length : Int)) by omega)]
      simp only [numsI, List.append_nil] at he
      rw [he]
      exact Ev.bind hs (Ev.now _)
    | succ m ih =>
      intro acc i h0 hi ha he
      refine Ev.step (fun k => by rw [impl_sortedBy_at_impl_dueOrder_1.l0]) ?_
      simp only [if_pos (show i < (l.length : Int) by omega), if_pos (show acc.length < 17592186044416 by omega), w64 (x := i + 1) (by omega) (by omega)]
      exact ih (acc ++ [i]) (i + 1) (by omega) (by omega) (by simp; omega) (by simpa [numsI] using he)
  exact H l.length [] 0 (by omega) (by omega) rfl rfl
def ltD (l : List S56) (a b : Int) : Bool := decide ((rd_T56 l a).f2 < (rd_T56 l b).f2)
theorem ltD_O (l : List S56) : ∀ x y z, ltD l x y = true → ltD l z y = false → ltD l x z = true := by
  intro x y z h1 h2
  simp only [ltD, decide_eq_true_eq, decide_eq_false_iff_not] at h1 h2 ⊢
  omega
theorem ltD_A (l : List S56) : ∀ x y, ltD l x y = true → ltD l y x = false := by
  intro x y h1
  simp only [ltD, decide_eq_true_eq, decide_eq_false_iff_not] at h1 ⊢
  omega
theorem cmp_due (l : List S56) (a b : Int) (ha : 0 ≤ a) (ha1 : a < (l.length : Int)) (hb : 0 ≤ b) (hb1 : b < (l.length : Int)) : ∃ t : Int, impl_dueOrder_1.f a b l = some t ∧ (t < 0 ↔ ltD l a b = true) := by
  simp only [impl_dueOrder_1.f, if_pos ha, if_pos ha1, if_pos hb, if_pos hb1, cmp_Compare_int64.f, cmp_isNaN_int64.f, Option.bind_some, bne_self_eq_false, Bool.false_eq_true, if_false, ltD, decide_eq_true_eq]
  by_cases h : (rd_T56 l a).f2 < (rd_T56 l b).f2
  · exact ⟨-1, by simp only [if_pos h, Option.bind_some], by simp [h]⟩
  · by_cases h' : (rd_T56 l a).f2 > (rd_T56 l b).f2
    · exact ⟨1, by simp only [if_neg h, if_pos h', Option.bind_some], by simp [h]⟩
    · exact ⟨0, by simp only [if_neg h, if_neg h', Option.bind_some], by simp [h]⟩
theorem less_one (a b : Int) : Ev (fun k => spec_l01Less.f k [a] [b]) (decide (a < b)) := by
  simp only [spec_l01Less.f]
  refine Ev.step (fun k => by rw [spec_l01Less.l0]) ?_
  simp only [List.length_singleton, if_pos (show (0 : Int) < ((1 : Nat) : Int) by decide), decide_eq_true (show (0 : Int) < ((1 : Nat) : Int) by decide)]
  refine Ev.step (fun k => by rw [spec_l01Less.j1]) ?_
  have r1 : rd [a] 0 = a := rfl
  have r2 : rd [b] 0 = b := rfl
  simp only [if_true, if_pos (show (0 : Int) ≤ 0 by decide), List.length_singleton, if_pos (show (0 : Int) < ((1 : Nat) : Int) by decide), r1, r2]
  by_cases h : a = b
  · simp only [if_pos h]
    refine Ev.step (fun k => by rw [spec_l01Less.l0]) ?_
    rw [show wrap64 ((0 : Int) + 1) = 1 from w64 (by omega) (by omega)]
    simp only [List.length_singleton, if_neg (show ¬ (1 : Int) < ((1 : Nat) : Int) by decide)]
    refine Ev.step (fun k => by rw [spec_l01Less.j1]) ?_
    simp only [Bool.false_eq_true, if_false, List.length_singleton]
    exact ev_eq (Ev.now _) (by simp [h])
  · simp only [if_neg h]
    exact Ev.now _
def keyD (l : List S56) : List (List Int) := l.map fun x => [x.f2]
theorem key_at {l p s : List S56} (h : l = p ++ s) {i : Int} (h0 : 0 ≤ i) (h1 : i < (p.length : Int)) : rd_L2 (keyD p) i = [(rd_T56 l i).f2] := by
  have hi : i.toNat < p.length := by omega
  unfold rd_L2 keyD rd_T56
  subst h
  simp [List.getD_eq_getElem?_getD, List.getElem?_append_left hi, hi]
theorem spec_insert {l p s : List S56} {x : S56} (he : l = p ++ x :: s) (hl : l.length ≤ 1048576) (q : List Int) (hq : q.length = p.length) (hm : ∀ z ∈ q, 0 ≤ z ∧ z < (p.length : Int)) : Ev (fun k => spec_l20Insert.f k q (keyD (p ++ [x])) (p.length : Int)) (insF (ltD l) (p.length : Int) q) := by
  simp only [spec_l20Insert.f]
  have hkl : (keyD (p ++ [x])).length = p.length + 1 := by simp [keyD]
  have hpl := mid_lt he
  have he' : l = (p ++ [x]) ++ s := by rw [he]; simp
  have hfin : ∀ (u v : List Int), q = u ++ v → Ev (fun _ : Nat => (spec_l01Own.f (q.take ((u.length : Int)).toNat)).bind fun t145 => ((some (([(p.length : Int)] : List Int) : List Int)).bind fun y148 => (if t145.length + y148.length < 17592186044416 then ((some (t145 ++ y148 : List Int)).bind fun y151 => (if y151.length + (q.drop ((u.length : Int)).toNat).length < 17592186044416 then (some (y151 ++ (q.drop ((u.length : Int)).toNat))) else (none))) else (none)))) (u ++ (p.length : Int) :: v) := by
    intro u v e
    have e1 : q.take ((u.length : Int)).toNat = u := by rw [e, Int.toNat_natCast]; simp
    have e2 : q.drop ((u.length : Int)).toNat = v := by rw [e, Int.toNat_natCast]; simp
    have el := congrArg List.length e
    simp only [List.length_append] at el
    simp only [e1, e2, spec_l01Own.f, Option.bind_some, List.length_nil, List.nil_append, if_pos (show 0 + u.length < 17592186044416 by omega), List.length_singleton, if_pos (show u.length + 1 < 17592186044416 by omega), List.length_append, if_pos (show u.length + 1 + v.length < 17592186044416 by omega)]
    exact ev_eq (Ev.now _) (by simp)
  refine loop_list q (fun u v => Ev (fun k => spec_l20Insert.l0 k q (keyD (p ++ [x])) (p.length : Int) (u.length : Int)) (u ++ insF (ltD l) (p.length : Int) v)) ?_ ?_
  · refine Ev.step (fun k => by rw [spec_l20Insert.l0]) ?_
    simp only [if_neg (nlt_self q), if_pos (nat_nn q.length), if_pos (Int.le_refl (q.length : Int))]
    exact hfin q [] (by simp)
  · intro u y v e ih
    have hu := mid_lt e
    have hy := hm y (by rw [e]; simp)
    have ry : rd q (u.length : Int) = y := mid_get e 0
    have k1 := key_at he' (nat_nn p.length) (by simp; omega : (p.length : Int) < ((p ++ [x]).length : Int))
    have k2 := key_at he' hy.1 (by simp; omega : y < ((p ++ [x]).length : Int))
    refine Ev.step (fun k => by rw [spec_l20Insert.l0]) ?_
    simp only [if_pos hu, if_pos (nat_nn p.length), hkl, if_pos (show (p.length : Int) < ((p.length + 1 : Nat) : Int) by omega), if_pos (nat_nn u.length), ry, if_pos hy.1, if_pos (show y < ((p.length + 1 : Nat) : Int) by omega), k1, k2]
    refine Ev.bind (less_one _ _) ?_
    by_cases h : (rd_T56 l (p.length : Int)).f2 < (rd_T56 l y).f2
    · have hlt : ltD l (p.length : Int) y = true := decide_eq_true h
      simp only [decide_eq_true h, if_true, if_pos (show (u.length : Int) ≤ (q.length : Int) by omega), insF, if_pos hlt]
      exact hfin u (y :: v) e
    · have hlt : ¬ ltD l (p.length : Int) y = true := by simp [ltD, h]
      simp only [decide_eq_false h, Bool.false_eq_true, if_false, mid_next e (by omega), insF, if_neg hlt]
      simpa using ih
theorem spec_due (l : List S56) (h7 : l.length ≤ 1000) : Ev (fun k => spec_DueOrder.l0 k l [] [] 0) (sortF (ltD l) l.length, 0) := by
  refine loop_list l (fun p s => Ev (fun k => spec_DueOrder.l0 k l (keyD p) (sortF (ltD l) p.length) (p.length : Int)) (sortF (ltD l) l.length, 0)) ?_ ?_
  · refine Ev.step (fun k => by rw [spec_DueOrder.l0]) ?_
    simp only [if_neg (nlt_self l)]
    exact Ev.now _
  · intro p x s he ih
    have hp := mid_lt he
    have hx : rd_T56 l (p.length : Int) = x := by unfold rd_T56; exact mid_get he _
    have hk : (keyD p).length = p.length := by simp [keyD]
    have ek : keyD p ++ [[x.f2]] = keyD (p ++ [x]) := by simp [keyD]
    refine Ev.step (fun k => by rw [spec_DueOrder.l0]) ?_
    simp only [if_pos hp, if_pos (nat_nn p.length), hk, if_pos (show p.length < 5864062014805 by omega), hx, Option.bind_some, ek, mid_next he (by omega)]
    refine Ev.bind (spec_insert he (by omega) (sortF (ltD l) p.length) (sortF_length _ _) (fun z hz => sortF_mem hz)) ?_
    have e : sortF (ltD l) (p ++ [x]).length = insF (ltD l) (p.length : Int) (sortF (ltD l) p.length) := by
      rw [show (p ++ [x]).length = p.length + 1 by simp]; rfl
    rw [e] at ih
    exact ih
def fct : Nat → Nat
  | 0 => 1
  | n + 1 => (n + 1) * fct n
theorem w64n (x : Nat) (h : x ≤ 1000000) : wrap64 (x : Int) = (x : Int) := w64 (by omega) (by omega)
theorem fct_pos (n : Nat) : 0 < fct n := by
  induction n with
  | zero => exact Nat.one_pos
  | succ n ih => exact Nat.mul_pos (Nat.succ_pos n) ih
theorem fct_le {n : Nat} (h : n ≤ 7) : fct n ≤ 5040 := by
  rcases (by omega : n = 0 ∨ n = 1 ∨ n = 2 ∨ n = 3 ∨ n = 4 ∨ n = 5 ∨ n = 6 ∨ n = 7) with rfl | rfl | rfl | rfl | rfl | rfl | rfl | rfl <;> decide
theorem fct_ne (m : Nat) : ¬ ((fct m : Nat) : Int) = 0 := by
  have := fct_pos m
  generalize fct m = g at this ⊢
  omega
theorem fct_step (k : Nat) : ((fct k : Nat) : Int) * ((k + 1 : Nat) : Int) = ((fct (k + 1) : Nat) : Int) := by
  rw [← Int.natCast_mul, Nat.mul_comm]; rfl
theorem factorial_spec (n : Nat) (hn : n ≤ 7) : Ev (fun k => spec_l01Factorial.f k (n : Int)) (fct n : Int) := by
  simp only [spec_l01Factorial.f]
  have H : ∀ (d c : Nat), c + d = n → Ev (fun k => spec_l01Factorial.l0 k (n : Int) (fct c : Int) ((c + 1 : Nat) : Int)) (fct n : Int) := by
    intro d
    induction d with
    | zero =>
      intro c hc
      have : c = n := by omega
      subst this
      refine Ev.step (fun k => by rw [spec_l01Factorial.l0]) ?_
      simp only [if_neg (show ¬ ((c + 1 : Nat) : Int) ≤ (c : Int) by omega)]
      exact Ev.now _
    | succ d ih =>
      intro c hc
      refine Ev.step (fun k => by rw [spec_l01Factorial.l0]) ?_
      have w2 : wrap64 (((c + 1 : Nat) : Int) + 1) = ((c + 1 + 1 : Nat) : Int) := by rw [w64 (by omega) (by omega)]; omega
      have w1 := w64n (fct (c + 1)) (Nat.le_trans (fct_le (by omega)) (by decide))
      simp only [if_pos (show ((c + 1 : Nat) : Int) ≤ (n : Int) by omega), fct_step, w1, w2]
      exact ih (c + 1) (by omega)
  by_cases h0 : n = 0
  · subst h0
    refine Ev.step (fun k => by rw [spec_l01Factorial.l0]) ?_
    simp only [if_neg (show ¬ (2 : Int) ≤ ((0 : Nat) : Int) by decide)]
    exact Ev.now _
  · exact H (n - 1) 1 (by omega)
theorem factorial_impl (n : Nat) (hn : n ≤ 7) : Ev (fun k => impl_factorial.f k (n : Int)) (fct n : Int) := by
  simp only [impl_factorial.f]
  have H : ∀ (d c : Nat), c + d = n → Ev (fun k => impl_factorial.l0 k (n : Int) (fct c : Int) ((c + 1 : Nat) : Int)) (fct n : Int) := by
    intro d
    induction d with
    | zero =>
      intro c hc
      have : c = n := by omega
      subst this
      refine Ev.step (fun k => by rw [impl_factorial.l0]) ?_
      simp only [if_neg (show ¬ ((c + 1 : Nat) : Int) ≤ (c : Int) by omega)]
      exact Ev.now _
    | succ d ih =>
      intro c hc
      refine Ev.step (fun k => by rw [impl_factorial.l0]) ?_
      have w2 : wrap64 (((c + 1 : Nat) : Int) + 1) = ((c + 1 + 1 : Nat) : Int) := by rw [w64 (by omega) (by omega)]; omega
      have w1 := w64n (fct (c + 1)) (Nat.le_trans (fct_le (by omega)) (by decide))
      simp only [if_pos (show ((c + 1 : Nat) : Int) ≤ (n : Int) by omega), fct_step, w1, w2]
      exact ih (c + 1) (by omega)
  by_cases h0 : n = 0
  · subst h0
    refine Ev.step (fun k => by rw [impl_factorial.l0]) ?_
    simp only [if_neg (show ¬ (2 : Int) ≤ ((0 : Nat) : Int) by decide)]
    exact Ev.now _
  · exact H (n - 1) 1 (by omega)
/-- The order of a rank: each place takes one of those left. -/
def decF : Nat → List Int → Nat → List Int
  | 0, _, _ => []
  | m + 1, s, r => s.getD (r / fct m) 0 :: decF m (s.take (r / fct m) ++ s.drop (r / fct m + 1)) (r % fct m)
theorem rank_div {m r : Nat} (h : r < fct (m + 1)) : r / fct m < m + 1 := by
  rw [Nat.div_lt_iff_lt_mul (fct_pos m)]
  exact h
theorem at_split {s : List Int} {i : Nat} (h : i < s.length) : s = s.take i ++ s.getD i 0 :: s.drop (i + 1) := by
  rw [List.getD_eq_getElem?_getD, List.getElem?_eq_getElem h, Option.getD_some, ← List.drop_eq_getElem_cons h, List.take_append_drop]
theorem decF_perm : ∀ (m : Nat) (s : List Int) (r : Nat), s.length = m → r < fct m → (decF m s r).Perm s := by
  intro m
  induction m with
  | zero => intro s r hs _; rw [List.eq_nil_of_length_eq_zero hs]; exact List.Perm.refl _
  | succ m ih =>
    intro s r hs hr
    have hd := rank_div hr
    have e := at_split (s := s) (i := r / fct m) (by omega)
    simp only [decF]
    have := ih (s.take (r / fct m) ++ s.drop (r / fct m + 1)) (r % fct m) (by simp; omega) (Nat.mod_lt _ (fct_pos m))
    refine (List.Perm.cons _ this).trans ?_
    have h2 := (List.perm_middle (a := s.getD (r / fct m) 0) (l₁ := s.take (r / fct m)) (l₂ := s.drop (r / fct m + 1))).symm
    rwa [← e] at h2
/-- Every order is the order of a rank. -/
theorem decF_onto : ∀ (m : Nat) (s o : List Int), s.length = m → o.Perm s → ∃ r, r < fct m ∧ decF m s r = o := by
  intro m
  induction m with
  | zero =>
    intro s o hs hp
    rw [List.eq_nil_of_length_eq_zero hs] at hp
    exact ⟨0, fct_pos 0, by rw [hp.eq_nil]; rfl⟩
  | succ m ih =>
    intro s o hs hp
    cases o with
    | nil => have := hp.length_eq; simp at this; omega
    | cons y o =>
      obtain ⟨u, v, rfl⟩ := List.append_of_mem (hp.mem_iff.1 (by simp) : y ∈ s)
      have hp' : o.Perm (u ++ v) := (hp.trans List.perm_middle).cons_inv
      obtain ⟨r, hr, e⟩ := ih (u ++ v) o (by simp at hs ⊢; omega) hp'
      have hul : u.length < m + 1 := by simp at hs; omega
      have hdiv : (u.length * fct m + r) / fct m = u.length := by
        rw [Nat.add_comm, Nat.add_mul_div_right _ _ (fct_pos m), Nat.div_eq_of_lt hr, Nat.zero_add]
      have hmod : (u.length * fct m + r) % fct m = r := by
        rw [Nat.add_comm, Nat.add_mul_mod_self_right, Nat.mod_eq_of_lt hr]
      refine ⟨u.length * fct m + r, ?_, ?_⟩
      · show _ < (m + 1) * fct m
        have := Nat.mul_le_mul_right (fct m) (show u.length + 1 ≤ m + 1 by omega)
        rw [Nat.add_mul, Nat.one_mul] at this
        omega
      · simp only [decF, hdiv, hmod]
        have h1 : (u ++ y :: v).getD u.length 0 = y := by simp
        have h2 : (u ++ y :: v).take u.length = u := by simp
        have h3 : (u ++ y :: v).drop (u.length + 1) = v := by simp
        rw [h1, h2, h3, e]
theorem rank_impl : ∀ (m : Nat) (s out : List Int) (r : Nat), s.length = m → m ≤ 7 → r < fct m → out.length + m ≤ 1000 → Ev (fun k => impl_OrderOfRank.l1 k (r : Int) s out) (out ++ decF m s r, 0) := by
  intro m
  induction m with
  | zero =>
    intro s out r hs _ _ _
    refine Ev.step (fun k => by rw [impl_OrderOfRank.l1]) ?_
    simp only [if_neg (show ¬ (s.length : Int) > 0 by omega), decF, List.append_nil]
    exact Ev.now _
  | succ m ih =>
    intro s out r hs h7 hr ho
    have hd := rank_div hr
    have ed : Int.tdiv (r : Int) (fct m : Int) = ((r / fct m : Nat) : Int) := (Int.ofNat_tdiv _ _).symm
    have em : Int.tmod (r : Int) (fct m : Int) = ((r % fct m : Nat) : Int) := (Int.ofNat_tmod _ _).symm
    have hmod : r % fct m < fct m := Nat.mod_lt _ (fct_pos m)
    have hne := fct_ne m
    clear hr
    generalize hq : r / fct m = q at ed hd
    generalize hq2 : r % fct m = q2 at em hmod
    have w1 : wrap64 ((s.length : Int) - 1) = (m : Int) := by clear hmod hne hq hq2 ed em; rw [hs, show ((m + 1 : Nat) : Int) - 1 = (m : Int) by omega]; exact w64 (by omega) (by omega)
    have w2 : wrap64 ((q : Nat) : Int) = (q : Int) := w64n q (by clear hmod hne hq hq2 ed em; omega)
    have w3 : wrap64 (((q : Nat) : Int) + 1) = ((q + 1 : Nat) : Int) := by clear hmod hne hq hq2 ed em; exact w64 (by omega) (by omega)
    have c1 : (s.length : Int) > 0 := by clear hmod hne hq hq2 ed em; omega
    have c2 : (q : Int) < (s.length : Int) := by clear hmod hne hq hq2 ed em; omega
    have c3 : out.length < 17592186044416 := by clear hmod hne hq hq2 ed em; omega
    have c4 : (q : Int) < ((q + 1 : Nat) : Int) := by clear hmod hne hq hq2 ed em; omega
    have c5 : ((q + 1 : Nat) : Int) ≤ (s.length : Int) := by clear hmod hne hq hq2 ed em; omega
    have c6 : (s.take q ++ s.drop (q + 1)).length = m := by clear hmod hne hq hq2 ed em; simp; omega
    have c7 : (out ++ [s.getD q 0]).length + m ≤ 1000 := by clear hmod hne hq hq2 ed em; simp; omega
    have c8 : m ≤ 7 := by clear hmod hne hq hq2 ed em; omega
    refine Ev.step (fun k => by rw [impl_OrderOfRank.l1]) ?_
    simp only [if_pos c1, impl_length_int64.f, Option.bind_some, w1]
    refine Ev.bind (factorial_impl m c8) ?_
    simp only [if_neg hne, ed, em, w2, w3, if_pos (nat_nn q), if_pos c2, if_pos c3, slices_Delete__int64_int64.f, if_pos c4, if_pos c5, Int.toNat_natCast, Option.bind_some]
    have := ih (s.take q ++ s.drop (q + 1)) (out ++ [s.getD q 0]) q2 c6 c8 hmod c7
    refine ev_eq (r := (out ++ [s.getD q 0] ++ decF m (s.take q ++ s.drop (q + 1)) q2, 0)) ?_ (by simp only [decF, hq, hq2, List.append_assoc, List.singleton_append])
    exact this
/-- The numbers below n that are not yet taken. -/
def lftF (n : Nat) (out : List Int) : List Int := (numsI 0 n).filter (fun x => !(decide (x ∈ out)))
theorem numsI_mem : ∀ (n : Nat) (m x : Int), x ∈ numsI m n ↔ m ≤ x ∧ x < m + (n : Int) := by
  intro n
  induction n with
  | zero =>
    intro m x
    simp only [numsI, List.not_mem_nil, false_iff]
    omega
  | succ n ih =>
    intro m x
    simp only [numsI, List.mem_cons, ih]
    omega
theorem numsI_nodup : ∀ (n : Nat) (m : Int), (numsI m n).Nodup := by
  intro n
  induction n with
  | zero => intro m; exact List.nodup_nil
  | succ n ih => intro m; exact List.nodup_cons.2 ⟨fun h => by have := (numsI_mem n (m + 1) m).1 h; omega, ih _⟩
theorem filter_ne {y : Int} : ∀ {L : List Int}, y ∉ L → L.filter (fun x => !(decide (x = y))) = L := by
  intro L
  induction L with
  | nil => intro _; rfl
  | cons x L ih =>
    intro h
    have h1 : x ≠ y := fun e => h (by simp [e])
    rw [List.filter_cons_of_pos (by simp [h1]), ih (fun hy => h (by simp [hy]))]
theorem lftF_take {n : Nat} {out : List Int} {q : Nat} (h : q < (lftF n out).length) : lftF n (out ++ [(lftF n out).getD q 0]) = (lftF n out).take q ++ (lftF n out).drop (q + 1) := by
  have e := at_split h
  generalize (lftF n out).getD q 0 = y at e ⊢
  have hn : (lftF n out).Nodup := (numsI_nodup n 0).filter _
  have e2 : lftF n (out ++ [y]) = (lftF n out).filter (fun x => !(decide (x = y))) := by
    unfold lftF
    rw [List.filter_filter]
    congr 1
    funext x
    by_cases h1 : x = y <;> by_cases h2 : x ∈ out <;> simp [h1, h2]
  generalize lftF n out = L at e hn e2 ⊢
  rw [e2]
  generalize L.take q = u at e ⊢
  generalize L.drop (q + 1) = v at e ⊢
  subst e
  obtain ⟨hu, hv, hd⟩ := List.nodup_append.1 hn
  have hv' := List.nodup_cons.1 hv
  rw [List.filter_append, List.filter_cons_of_neg (by simp), filter_ne (fun h => hd y h y (by simp) rfl), filter_ne hv'.1]
theorem rank_spec_in (n : Nat) (r' : Int) (out : List Int) (R : List Int × Int) (hn : n ≤ 7) (ho : out.length ≤ 1000) : ∀ (c x : Nat) (skip : Nat), x + c = n → skip ≤ 1000 → skip < ((numsI (x : Int) c).filter (fun z => !(decide (z ∈ out)))).length →
    Ev (fun k => spec_OrderOfRank.l0 k (n : Int) r' (out ++ [((numsI (x : Int) c).filter (fun z => !(decide (z ∈ out)))).getD skip 0]) (wrap64 ((out.length : Int) + 1))) R →
    Ev (fun k => spec_OrderOfRank.l1 k (n : Int) r' out (out.length : Int) (skip : Int) (x : Int)) R := by
  intro c
  induction c with
  | zero => intro x skip _ _ h _; simp [numsI] at h
  | succ c ih =>
    intro x skip hx hsk hs h
    have ex : ((x : Int) + 1) = ((x + 1 : Nat) : Int) := by omega
    have ew : wrap64 ((x : Int) + 1) = ((x + 1 : Nat) : Int) := by rw [w64 (by omega) (by omega)]; omega
    refine Ev.step (fun k => by rw [spec_OrderOfRank.l1]) ?_
    simp only [if_pos (show (x : Int) < (n : Int) by omega)]
    refine Ev.bind (spec_has out (x : Int) (by omega)) ?_
    simp only [ew]
    simp only [numsI, ex] at hs h
    by_cases hm : (x : Int) ∈ out
    · rw [List.filter_cons_of_neg (by simp [hm])] at hs h
      simp only [decide_eq_true hm, if_true]
      exact ih (x + 1) skip (by omega) hsk hs h
    · rw [List.filter_cons_of_pos (by simp [hm])] at hs h
      simp only [decide_eq_false hm, Bool.false_eq_true, if_false]
      cases skip with
      | zero =>
        simp only [show (((0 : Nat) : Int) = 0) = True from eq_true rfl, if_true, if_pos (show out.length < 17592186044416 by omega)]
        exact h
      | succ skip =>
        have es : wrap64 (((skip + 1 : Nat) : Int) - 1) = (skip : Int) := by clear hs; rw [w64 (by omega) (by omega)]; omega
        simp only [if_neg (show ¬ ((skip + 1 : Nat) : Int) = 0 by clear hs; omega), es]
        exact ih (x + 1) skip (by clear hs; omega) (by clear hs; omega) (Nat.lt_of_succ_lt_succ hs) h
theorem rank_spec (n : Nat) (hn : n ≤ 7) : ∀ (m : Nat) (out : List Int) (r : Nat), (lftF n out).length = m → out.length + m = n → r < fct m → Ev (fun k => spec_OrderOfRank.l0 k (n : Int) (r : Int) out (out.length : Int)) (out ++ decF m (lftF n out) r, 0) := by
  intro m
  induction m with
  | zero =>
    intro out r _ ho _
    refine Ev.step (fun k => by rw [spec_OrderOfRank.l0]) ?_
    simp only [if_neg (show ¬ (out.length : Int) < (n : Int) by omega), decF, List.append_nil]
    exact Ev.now _
  | succ m ih =>
    intro out r hs ho hr
    have hd := rank_div hr
    have ed : Int.tdiv (r : Int) (fct m : Int) = ((r / fct m : Nat) : Int) := (Int.ofNat_tdiv _ _).symm
    have em : Int.tmod (r : Int) (fct m : Int) = ((r % fct m : Nat) : Int) := (Int.ofNat_tmod _ _).symm
    have hmod : r % fct m < fct m := Nat.mod_lt _ (fct_pos m)
    have hne := fct_ne m
    clear hr
    generalize hq : r / fct m = q at ed hd
    generalize hq2 : r % fct m = q2 at em hmod
    have w1 : wrap64 (wrap64 ((n : Int) - (out.length : Int)) - 1) = (m : Int) := by
      clear hmod hne hq hq2 ed em
      rw [w64 (x := (n : Int) - (out.length : Int)) (by omega) (by omega), show (n : Int) - (out.length : Int) - 1 = (m : Int) by omega]
      exact w64 (by omega) (by omega)
    have w2 : wrap64 ((q : Nat) : Int) = (q : Int) := w64n q (by clear hmod hne hq hq2 ed em; omega)
    have c1 : (out.length : Int) < (n : Int) := by clear hmod hne hq hq2 ed em; omega
    have c8 : m ≤ 7 := by clear hmod hne hq hq2 ed em; omega
    have hlt : q < (lftF n out).length := by clear hmod hne hq hq2 ed em; omega
    have ht := lftF_take hlt
    have c6 : (lftF n (out ++ [(lftF n out).getD q 0])).length = m := by clear hmod hne hq hq2 ed em; rw [ht]; simp; omega
    have c7 : (out ++ [(lftF n out).getD q 0]).length + m = n := by clear hmod hne hq hq2 ed em; simp; omega
    have e1 : wrap64 ((out.length : Int) + 1) = ((out ++ [(lftF n out).getD q 0]).length : Int) := by clear hmod hne hq hq2 ed em; simp; exact w64 (by omega) (by omega)
    refine Ev.step (fun k => by rw [spec_OrderOfRank.l0]) ?_
    simp only [if_pos c1, w1]
    refine Ev.bind (factorial_spec m c8) ?_
    simp only [if_neg hne, ed, em, w2]
    refine rank_spec_in n _ out _ hn (by clear hmod hne hq hq2 ed em; omega) n 0 q (by simp) (by clear hmod hne hq hq2 ed em; omega) hlt ?_
    have := ih (out ++ [(lftF n out).getD q 0]) q2 c6 c7 hmod
    rw [ht] at this
    show Ev (fun k => spec_OrderOfRank.l0 k (n : Int) _ (out ++ [(lftF n out).getD q 0]) (wrap64 ((out.length : Int) + 1))) _
    rw [e1]
    refine ev_eq this ?_
    simp only [decF, hq, hq2, List.append_assoc, List.singleton_append]
theorem lftF_nil (n : Nat) : lftF n [] = numsI 0 n := by
  unfold lftF
  exact List.filter_eq_self.2 (fun x _ => by simp)
/-- Both tell the same order of a rank. -/
theorem both_rank (n r : Nat) (hn : n ≤ 7) (hr : r < fct n) : Ev (fun k => spec_OrderOfRank.f k (n : Int) (r : Int)) (decF n (numsI 0 n) r, 0) ∧ Ev (fun k => impl_OrderOfRank.f k (n : Int) (r : Int)) (decF n (numsI 0 n) r, 0) := by
  have h1 : inR (n : Int) 0 12 = true := by clear hr; exact inR_iff.2 ⟨by omega, by omega⟩
  obtain ⟨h2, w1⟩ : inR (r : Int) 0 ((fct n : Int) - 1) = true ∧ wrap64 ((fct n : Int) - 1) = (fct n : Int) - 1 := by
    have hf := fct_le hn
    generalize fct n = g at hr hf ⊢
    exact ⟨inR_iff.2 ⟨by omega, by omega⟩, w64 (by omega) (by omega)⟩
  constructor
  · simp only [spec_OrderOfRank.f, l01In, h1, Option.bind_some, if_true]
    refine Ev.bind (factorial_spec n hn) ?_
    simp only [w1, h2, Bool.not_true]
    refine Ev.step (fun k => by rw [spec_OrderOfRank.j0]) ?_
    simp only [Bool.false_eq_true, if_false]
    have := rank_spec n hn n [] r (by rw [lftF_nil, numsI_length]) (by simp) hr
    rw [lftF_nil] at this
    simpa using this
  · simp only [impl_OrderOfRank.f, inRange, h1, Option.bind_some, if_true]
    refine Ev.bind (factorial_impl n hn) ?_
    simp only [w1, h2, Bool.not_true]
    refine Ev.step (fun k => by rw [impl_OrderOfRank.j0]) ?_
    simp only [Bool.false_eq_true, if_false]
    have H : ∀ (c x : Nat) (acc : List Int), x + c = n → acc.length = x → acc ++ numsI (x : Int) c = numsI 0 n → Ev (fun k => impl_OrderOfRank.l0 k (r : Int) acc [] (n : Int) (x : Int)) (decF n (numsI 0 n) r, 0) := by
      intro c
      induction c with
      | zero =>
        intro x acc hx ha he
        refine Ev.step (fun k => by rw [impl_OrderOfRank.l0]) ?_
        simp only [if_neg (show ¬ (x : Int) < (n : Int) by omega)]
        simp only [numsI, List.append_nil] at he
        subst he
        have := rank_impl n (numsI 0 n) [] r (numsI_length _ _) hn hr (by simp; omega)
        simpa using this
      | succ c ih =>
        intro x acc hx ha he
        refine Ev.step (fun k => by rw [impl_OrderOfRank.l0]) ?_
        have ex : ((x : Int) + 1) = ((x + 1 : Nat) : Int) := by omega
        have ew : wrap64 ((x : Int) + 1) = ((x + 1 : Nat) : Int) := by rw [w64 (by omega) (by omega)]; omega
        simp only [if_pos (show (x : Int) < (n : Int) by omega), if_pos (show acc.length < 17592186044416 by omega), ew]
        exact ih (x + 1) (acc ++ [(x : Int)]) (by omega) (by simp; omega) (by rw [← he, numsI, ex, List.append_assoc, List.singleton_append])
    exact H n 0 [] (by omega) rfl rfl
theorem sumI_bnd (F : Int → Int) (N : Int) : ∀ (t : List Int), (∀ x ∈ t, 0 ≤ F x ∧ F x ≤ N) → 0 ≤ sumI F t ∧ sumI F t ≤ N * (t.length : Int) := by
  intro t
  induction t with
  | nil => intro _; simp [sumI]
  | cons x t ih =>
    intro h
    have h1 := ih (fun y hy => h y (by simp [hy]))
    have h2 := h x (by simp)
    simp only [sumI, List.length_cons]
    rw [show ((t.length + 1 : Nat) : Int) = (t.length : Int) + 1 by omega, Int.mul_add]
    omega
theorem sumI_app (F : Int → Int) : ∀ (a b : List Int), sumI F (a ++ b) = sumI F a + sumI F b := by
  intro a b
  induction a with
  | nil => simp [sumI]
  | cons x a ih => simp only [List.cons_append, sumI, ih]; omega
/-- A part of a list sums up to no more. -/
theorem sum_sub (F : Int → Int) : ∀ (S T : List Int), S.Nodup → (∀ x ∈ S, x ∈ T) → (∀ x ∈ T, 0 ≤ F x) → sumI F S ≤ sumI F T := by
  intro S
  induction S with
  | nil => 
    intro T _ _ hF
    have : ∀ T : List Int, (∀ x ∈ T, 0 ≤ F x) → 0 ≤ sumI F T := by
      intro T
      induction T with
      | nil => intro _; simp [sumI]
      | cons x T ih => intro h; have h1 := ih (fun y hy => h y (by simp [hy])); have h2 := h x (by simp); simp only [sumI]; omega
    exact this T hF
  | cons x S ih =>
    intro T hn hs hF
    obtain ⟨hx, hn'⟩ := List.nodup_cons.1 hn
    obtain ⟨u, v, rfl⟩ := List.append_of_mem (hs x (by simp))
    have := ih (u ++ v) hn' (fun y hy => by
      have h1 := hs y (by simp [hy])
      have h2 : y ≠ x := fun e => hx (by rw [← e]; exact hy)
      simp only [List.mem_append, List.mem_cons] at h1 ⊢
      rcases h1 with h1 | h1 | h1
      · exact Or.inl h1
      · exact absurd h1 h2
      · exact Or.inr h1) (fun y hy => hF y (by
        simp only [List.mem_append, List.mem_cons] at hy ⊢
        rcases hy with hy | hy
        · exact Or.inl hy
        · exact Or.inr (Or.inr hy)))
    rw [sumI_app] at this ⊢
    simp only [sumI]
    omega
theorem last_of (P : Int → Prop) : ∀ (o : List Int), (∃ x ∈ o, P x) → ∃ q j r, o = q ++ j :: r ∧ P j ∧ ∀ y ∈ r, ¬ P y := by
  intro o
  induction o with
  | nil => rintro ⟨x, hx, _⟩; cases hx
  | cons y o ih =>
    intro h
    by_cases h' : ∃ x ∈ o, P x
    · obtain ⟨q, j, r, e, hj, hr⟩ := ih h'
      exact ⟨y :: q, j, r, by rw [e]; rfl, hj, hr⟩
    · refine ⟨[], y, o, rfl, ?_, fun z hz hp => h' ⟨z, hz, hp⟩⟩
      obtain ⟨x, hx, hp⟩ := h
      rcases List.mem_cons.1 hx with rfl | hx
      · exact hp
      · exact absurd ⟨x, hx, hp⟩ h'
theorem foldl_mx_mem : ∀ (t : List Int) (acc : Int), t.foldl mx acc = acc ∨ t.foldl mx acc ∈ t := by
  intro t
  induction t with
  | nil => intro acc; exact Or.inl rfl
  | cons z t ih =>
    intro acc
    simp only [List.foldl_cons]
    rcases ih (mx acc z) with h | h
    · rw [h]
      have e : mx acc z = if acc < z then z else acc := rfl
      rw [e]
      split
      · exact Or.inr (by simp)
      · exact Or.inl rfl
    · exact Or.inr (by simp [h])
theorem lateF_of (d : List Int) : ∀ (s : List S56) (i : Nat), ∀ y ∈ lateF d i s, ∃ p x t, s = p ++ x :: t ∧ y = wrap64 (rd d ((i + p.length : Nat) : Int) - x.f2) := by
  intro s
  induction s with
  | nil => intro i y hy; simp [lateF] at hy
  | cons x s ih =>
    intro i y hy
    simp only [lateF, List.mem_cons] at hy
    rcases hy with hy | hy
    · exact ⟨[], x, s, rfl, by simpa using hy⟩
    · obtain ⟨p, z, t, e, h⟩ := ih (i + 1) y hy
      exact ⟨x :: p, z, t, by rw [e]; rfl, by rw [h, show i + 1 + p.length = i + (x :: p).length by simp; omega]⟩
/-- The latest job. -/
theorem most_at (d : List Int) {l : List S56} (h0 : 0 < l.length) : ∃ p x t, l = p ++ x :: t ∧ mostB d l = wrap64 (rd d (p.length : Int) - x.f2) := by
  cases l with
  | nil => simp at h0
  | cons x s =>
    simp only [mostB]
    rcases foldl_mx_mem (lateF d 1 s) (wrap64 (rd d 0 - x.f2)) with h | h
    · exact ⟨[], x, s, rfl, by rw [h]; rfl⟩
    · obtain ⟨p, z, t, e, h'⟩ := lateF_of d s 1 _ h
      exact ⟨x :: p, z, t, by rw [e]; rfl, by rw [h', show 1 + p.length = (x :: p).length by simp; omega]⟩
theorem split_at {α : Type} {l : List α} {i : Nat} (h : i < l.length) : ∃ p x t, l = p ++ x :: t ∧ p.length = i := by
  refine ⟨l.take i, l[i], l.drop (i + 1), ?_, by rw [List.length_take]; omega⟩
  rw [← List.drop_eq_getElem_cons h, List.take_append_drop]
/-- Without set-ups the order by due dates is the least late. -/
theorem due_least {a : Int} {l : List S56} (hs : shopB a l = true) (h0 : 0 < l.length) {o : List Int} (hp : o.Perm (sortF (ltD l) l.length)) {d d' : List Int}
    (hd : ∀ p x t, sortF (ltD l) l.length = p ++ x :: t → rd d x = sumI (minF l) (p ++ [x])) (hd' : ∀ p x t, o = p ++ x :: t → rd d' x = sumI (minF l) (p ++ [x])) : mostB d l ≤ mostB d' l := by
  obtain ⟨_, _, hl7⟩ := shop_a hs
  obtain ⟨p, x, t, e, hm⟩ := most_at d h0
  have hpl := mid_lt e
  have hi : (p.length : Int) ∈ sortF (ltD l) l.length := by
    have := order_perm (ltD l) l.length (numsI 0 l.length) ?_ ?_ (numsI_length _ _)
    · rw [← this.mem_iff, numsI_mem]; omega
    · exact numsI_nodup _ _
    · intro z hz; have := (numsI_mem _ _ _).1 hz; omega
  obtain ⟨u, v, eD⟩ := List.append_of_mem hi
  have hDn : (sortF (ltD l) l.length).Nodup := sortF_nodup _ _
  have hon : o.Nodup := hp.nodup_iff.2 hDn
  have hSn : (u ++ [(p.length : Int)]).Nodup := by
    have : (u ++ [(p.length : Int)] ++ v).Nodup := by rw [List.append_assoc]; rw [eD] at hDn; exact hDn
    exact (List.nodup_append.1 this).1
  have hSm : ∀ z ∈ u ++ [(p.length : Int)], z ∈ sortF (ltD l) l.length := by
    intro z hz
    rw [eD]
    rcases List.mem_append.1 hz with hz | hz
    · simp [hz]
    · simp at hz; simp [hz]
  have hrng : ∀ z ∈ o, 0 ≤ z ∧ z < (l.length : Int) := fun z hz => sortF_mem (hp.mem_iff.1 hz)
  have hmin : ∀ z, 0 ≤ z → z < (l.length : Int) → 0 ≤ minF l z ∧ minF l z ≤ 100000 := fun z z0 z1 => by
    have := job_ok hs z0 z1
    omega
  obtain ⟨q, j, r, eo, hj, hr⟩ := last_of (fun z => z ∈ u ++ [(p.length : Int)]) o ⟨(p.length : Int), hp.mem_iff.2 hi, by simp⟩
  have hjo : j ∈ o := by rw [eo]; simp
  have hjr := hrng j hjo
  have hsub : sumI (minF l) (u ++ [(p.length : Int)]) ≤ sumI (minF l) (q ++ [j]) := by
    refine sum_sub (minF l) _ _ hSn (fun z hz => ?_) (fun z hz => ?_)
    · have hzo : z ∈ o := hp.mem_iff.2 (hSm z hz)
      rw [eo] at hzo
      rcases List.mem_append.1 hzo with h | h
      · simp [h]
      · rcases List.mem_cons.1 h with h | h
        · simp [h]
        · exact absurd hz (hr z h)
    · have hzo : z ∈ o := by
        rw [eo]
        rcases List.mem_append.1 hz with h | h
        · simp [h]
        · simp at h; simp [h]
      have := hrng z hzo
      exact (hmin z this.1 this.2).1
  have hdue : (rd_T56 l j).f2 ≤ (rd_T56 l (p.length : Int)).f2 := by
    rcases List.mem_append.1 hj with h | h
    · obtain ⟨u1, u2, rfl⟩ := List.append_of_mem h
      have := sortF_srtd (ltD_O l) (ltD_A l) l.length u1 j (u2 ++ (p.length : Int) :: v) (by rw [eD]; simp) (p.length : Int) (by simp)
      simp only [ltD, decide_eq_false_iff_not] at this
      omega
    · simp at h; rw [h]; exact Int.le_refl _
  have hx : rd_T56 l (p.length : Int) = x := by unfold rd_T56; exact mid_get e _
  obtain ⟨p', x', t', e', hpl'⟩ := split_at (l := l) (i := j.toNat) (by omega)
  have hx' : rd_T56 l (p'.length : Int) = x' := by unfold rd_T56; exact mid_get e' _
  have ejj : (p'.length : Int) = j := by omega
  have hge := most_ge d' e'
  rw [ejj, hd' q j r eo] at hge
  rw [hm, hd u _ v eD]
  have b1 := sumI_bnd (minF l) 100000 (u ++ [(p.length : Int)]) (fun z hz => by have := sortF_mem (hSm z hz); exact hmin z this.1 this.2)
  have b2 := sumI_bnd (minF l) 100000 (q ++ [j]) (fun z hz => by
    have hzo : z ∈ o := by
      rw [eo]
      rcases List.mem_append.1 hz with h | h
      · simp [h]
      · simp at h; simp [h]
    have := hrng z hzo
    exact hmin z this.1 this.2)
  have l1 : (u ++ [(p.length : Int)]).length ≤ 7 := by
    have := congrArg List.length eD
    rw [sortF_length] at this
    simp at this ⊢
    omega
  have l2 : (q ++ [j]).length ≤ 7 := by
    have h1 := congrArg List.length eo
    have h2 := hp.length_eq
    rw [sortF_length] at h2
    simp at h1 ⊢
    omega
  have j1 := job_ok hs (i := (p.length : Int)) (by omega) hpl
  have j2 := job_ok hs hjr.1 hjr.2
  rw [hx] at j1 hdue
  have ex' : rd_T56 l j = x' := by rw [← ejj]; exact hx'
  rw [ex'] at j2 hdue
  generalize sumI (minF l) (u ++ [(p.length : Int)]) = A at hsub b1 ⊢
  generalize sumI (minF l) (q ++ [j]) = B at hsub b2 hge
  have w1 : wrap64 (A - x.f2) = A - x.f2 := w64 (by omega) (by omega)
  have w2 : wrap64 (B - x'.f2) = B - x'.f2 := w64 (by omega) (by omega)
  rw [w2] at hge
  rw [w1]
  omega
def famJ (l : List S56) (x : Int) : Int := (rd_T56 l x).f0
def lt2 (l : List S56) (a b : Int) : Prop := mapD l a < mapD l b ∨ mapD l a = mapD l b ∧ a < b
theorem chg_sorted (l : List S56) : ∀ (t : List Int) (f : Int), (∀ u y v, t = u ++ y :: v → ∀ z ∈ v, ¬ lt2 l (famJ l z) (famJ l y)) → (∀ z ∈ t, ¬ lt2 l (famJ l z) f) →
    (chgF l f t).Nodup ∧ (∀ c ∈ chgF l f t, lt2 l f c) ∧ ∀ c, c ∈ chgF l f t ↔ c ≠ f ∧ ∃ z ∈ t, famJ l z = c := by
  intro t
  induction t with
  | nil => intro f _ _; exact ⟨List.nodup_nil, fun c hc => by simp [chgF] at hc, fun c => by simp [chgF]⟩
  | cons x t ih =>
    intro f hp hf
    have hp' : ∀ u y v, t = u ++ y :: v → ∀ z ∈ v, ¬ lt2 l (famJ l z) (famJ l y) := fun u y v e => hp (x :: u) y v (by rw [e]; rfl)
    have hx : ∀ z ∈ t, ¬ lt2 l (famJ l z) (famJ l x) := hp [] x t rfl
    by_cases h : (rd_T56 l x).f0 = f
    · have ec : chgF l f (x :: t) = chgF l f t := by simp only [chgF, if_pos h]
      obtain ⟨i1, i2, i3⟩ := ih f hp' (fun z hz => hf z (by simp [hz]))
      rw [ec]
      refine ⟨i1, i2, fun c => ?_⟩
      rw [i3]
      constructor
      · rintro ⟨h1, z, hz, h2⟩; exact ⟨h1, z, by simp [hz], h2⟩
      · rintro ⟨h1, z, hz, h2⟩
        rcases List.mem_cons.1 hz with rfl | hz
        · exact absurd (h2.symm.trans h) h1
        · exact ⟨h1, z, hz, h2⟩
    · have ec : chgF l f (x :: t) = famJ l x :: chgF l (famJ l x) t := by simp only [chgF, if_neg h, famJ]
      obtain ⟨i1, i2, i3⟩ := ih (famJ l x) hp' hx
      have hlt : lt2 l f (famJ l x) := by
        have h1 := hf x (by simp)
        have h2 : famJ l x ≠ f := h
        unfold lt2 at h1 ⊢
        omega
      have htr : ∀ c, lt2 l (famJ l x) c → lt2 l f c := by
        intro c hc
        unfold lt2 at hlt hc ⊢
        omega
      rw [ec]
      refine ⟨List.nodup_cons.2 ⟨fun hm => ?_, i1⟩, fun c hc => ?_, fun c => ?_⟩
      · have := i2 _ hm
        unfold lt2 at this
        omega
      · rcases List.mem_cons.1 hc with rfl | hc
        · exact hlt
        · exact htr c (i2 c hc)
      · rw [List.mem_cons, i3]
        constructor
        · rintro (rfl | ⟨h1, z, hz, h2⟩)
          · exact ⟨h, x, by simp, rfl⟩
          · refine ⟨fun e => ?_, z, by simp [hz], h2⟩
            have h3 := htr c (i2 c ((i3 c).2 ⟨h1, z, hz, h2⟩))
            rw [e] at h3
            unfold lt2 at h3
            omega
        · rintro ⟨h1, z, hz, h2⟩
          by_cases hc : c = famJ l x
          · exact Or.inl hc
          · rcases List.mem_cons.1 hz with rfl | hz
            · exact Or.inl h2.symm
            · exact Or.inr ⟨hc, z, hz, h2⟩
theorem nodup_len_le (A B : List Int) (hA : A.Nodup) (h : ∀ c ∈ A, c ∈ B) : A.length ≤ B.length := by
  have h1 := sum_sub (fun _ => 1) A B hA h (fun _ _ => by omega)
  have : ∀ T : List Int, sumI (fun _ => 1) T = (T.length : Int) := by
    intro T
    induction T with
    | nil => rfl
    | cons x T ih => simp only [sumI, ih, List.length_cons]; omega
  rw [this, this] at h1
  omega
/-- The families of jobs, each once. -/
def kF (acc : List Int) (l : List S56) : List Int := l.foldl (fun acc x => if x.f0 ∈ acc then acc else acc ++ [x.f0]) acc
theorem kF_told : ∀ (l : List S56) (acc : List Int), acc.Nodup → (kF acc l).Nodup ∧ ∀ c, c ∈ kF acc l ↔ c ∈ acc ∨ ∃ x ∈ l, x.f0 = c := by
  intro l
  induction l with
  | nil => intro acc h; exact ⟨h, fun c => by simp [kF]⟩
  | cons x l ih =>
    intro acc h
    by_cases hx : x.f0 ∈ acc
    · have e : kF acc (x :: l) = kF acc l := by simp [kF, hx]
      obtain ⟨i1, i2⟩ := ih acc h
      rw [e]
      refine ⟨i1, fun c => ?_⟩
      rw [i2]
      constructor
      · rintro (h1 | ⟨y, hy, h1⟩)
        · exact Or.inl h1
        · exact Or.inr ⟨y, by simp [hy], h1⟩
      · rintro (h1 | ⟨y, hy, h1⟩)
        · exact Or.inl h1
        · rcases List.mem_cons.1 hy with rfl | hy
          · exact Or.inl (h1 ▸ hx)
          · exact Or.inr ⟨y, hy, h1⟩
    · have e : kF acc (x :: l) = kF (acc ++ [x.f0]) l := by simp [kF, hx]
      obtain ⟨i1, i2⟩ := ih (acc ++ [x.f0]) (by
        rw [List.nodup_append]
        exact ⟨h, by simp, fun a ha b hb => by simp at hb; subst hb; exact fun e => hx (e ▸ ha)⟩)
      rw [e]
      refine ⟨i1, fun c => ?_⟩
      rw [i2]
      constructor
      · rintro (h1 | ⟨y, hy, h1⟩)
        · rcases List.mem_append.1 h1 with h1 | h1
          · exact Or.inl h1
          · simp at h1; exact Or.inr ⟨x, by simp, h1.symm⟩
        · exact Or.inr ⟨y, by simp [hy], h1⟩
      · rintro (h1 | ⟨y, hy, h1⟩)
        · exact Or.inl (by simp [h1])
        · rcases List.mem_cons.1 hy with rfl | hy
          · exact Or.inl (by simp [h1])
          · exact Or.inr ⟨y, hy, h1⟩
theorem sortF_all (lt : Int → Int → Bool) (n : Nat) : (numsI 0 n).Perm (sortF lt n) :=
  order_perm lt n (numsI 0 n) (numsI_nodup _ _) (fun z hz => by have := (numsI_mem _ _ _).1 hz; omega) (numsI_length _ _)
/-- The machine is set up once for each family. -/
theorem fam_count {a : Int} {l : List S56} (hs : shopB a l = true) : (chgF l (-1) (sortF (ltF l) l.length)).length = (kF [] l).length := by
  have hsr := sortF_srtd (ltF_O l) (ltF_A l) l.length
  have hmem : ∀ z, z ∈ sortF (ltF l) l.length ↔ 0 ≤ z ∧ z < (l.length : Int) := fun z => by
    rw [← (sortF_all (ltF l) l.length).mem_iff, numsI_mem]; omega
  obtain ⟨k1, k2⟩ := kF_told l [] List.nodup_nil
  have key : (chgF l (-1) (sortF (ltF l) l.length)).Nodup ∧ ∀ c, c ∈ chgF l (-1) (sortF (ltF l) l.length) ↔ ∃ z ∈ sortF (ltF l) l.length, famJ l z = c := by
    generalize sortF (ltF l) l.length = F at hsr hmem
    cases F with
    | nil => exact ⟨List.nodup_nil, fun c => by simp [chgF]⟩
    | cons x t =>
      have hxr := (hmem x).1 (by simp)
      have hx0 := (job_ok hs hxr.1 hxr.2).1
      have hne : ¬ (rd_T56 l x).f0 = -1 := by omega
      have hpw : ∀ u y v, x :: t = u ++ y :: v → ∀ z ∈ v, ¬ lt2 l (famJ l z) (famJ l y) := by
        intro u y v e z hz
        have := hsr u y v e z hz
        simp only [ltF, decide_eq_false_iff_not] at this
        unfold lt2 famJ
        omega
      have ec : chgF l (-1) (x :: t) = famJ l x :: chgF l (famJ l x) t := by simp only [chgF, if_neg hne, famJ]
      obtain ⟨i1, i2, i3⟩ := chg_sorted l t (famJ l x) (fun u y v e => hpw (x :: u) y v (by rw [e]; rfl)) (hpw [] x t rfl)
      rw [ec]
      refine ⟨List.nodup_cons.2 ⟨fun hm => ?_, i1⟩, fun c => ?_⟩
      · have := i2 _ hm
        unfold lt2 at this
        omega
      · rw [List.mem_cons, i3]
        constructor
        · rintro (rfl | ⟨_, z, hz, h2⟩)
          · exact ⟨x, by simp, rfl⟩
          · exact ⟨z, by simp [hz], h2⟩
        · rintro ⟨z, hz, h2⟩
          by_cases hc : c = famJ l x
          · exact Or.inl hc
          · rcases List.mem_cons.1 hz with rfl | hz
            · exact Or.inl h2.symm
            · exact Or.inr ⟨hc, z, hz, h2⟩
  have hiff : ∀ c, c ∈ chgF l (-1) (sortF (ltF l) l.length) ↔ c ∈ kF [] l := by
    intro c
    rw [key.2, k2]
    constructor
    · rintro ⟨z, hz, rfl⟩
      have hr := (hmem z).1 hz
      refine Or.inr ⟨rd_T56 l z, ?_, rfl⟩
      have hi : z.toNat < l.length := by omega
      unfold rd_T56
      rw [List.getD_eq_getElem?_getD, List.getElem?_eq_getElem hi]
      exact List.getElem_mem hi
    · rintro (h | ⟨x, hx, rfl⟩)
      · cases h
      · obtain ⟨p, t, e⟩ := List.append_of_mem hx
        refine ⟨(p.length : Int), (hmem _).2 ⟨by omega, mid_lt e⟩, ?_⟩
        unfold famJ rd_T56
        rw [mid_get e]
  exact Nat.le_antisymm (nodup_len_le _ _ key.1 (fun c hc => (hiff c).1 hc)) (nodup_len_le _ _ k1 (fun c hc => (hiff c).2 hc))
/-- The best of the first orders, and how late it is. -/
def bstF (D : Nat → List Int) (V : Nat → Int) : Nat → List Int × Int
  | 0 => ([], 0)
  | k + 1 => if k = 0 ∨ V k < (bstF D V k).2 then (D k, V k) else bstF D V k
theorem bstF_least (D : Nat → List Int) (V : Nat → Int) : ∀ k : Nat, (∃ j, j < k + 1 ∧ bstF D V (k + 1) = (D j, V j)) ∧ ∀ j, j < k + 1 → (bstF D V (k + 1)).2 ≤ V j := by
  intro k
  induction k with
  | zero =>
    have e : bstF D V 1 = (D 0, V 0) := by simp [bstF]
    rw [e]
    exact ⟨⟨0, by omega, rfl⟩, fun j hj => by rw [show j = 0 by omega]; exact Int.le_refl _⟩
  | succ k ih =>
    obtain ⟨⟨j0, hj0, e0⟩, hle⟩ := ih
    by_cases h : V (k + 1) < (bstF D V (k + 1)).2
    · have e : bstF D V (k + 1 + 1) = (D (k + 1), V (k + 1)) := by
        rw [show bstF D V (k + 1 + 1) = if k + 1 = 0 ∨ V (k + 1) < (bstF D V (k + 1)).2 then (D (k + 1), V (k + 1)) else bstF D V (k + 1) from rfl, if_pos (Or.inr h)]
      rw [e]
      refine ⟨⟨k + 1, by omega, rfl⟩, fun j hj => ?_⟩
      by_cases hj' : j = k + 1
      · rw [hj']; exact Int.le_refl _
      · have := hle j (by omega); show V (k + 1) ≤ V j; omega
    · have e : bstF D V (k + 1 + 1) = bstF D V (k + 1) := by
        rw [show bstF D V (k + 1 + 1) = if k + 1 = 0 ∨ V (k + 1) < (bstF D V (k + 1)).2 then (D (k + 1), V (k + 1)) else bstF D V (k + 1) from rfl, if_neg (by omega)]
      rw [e]
      refine ⟨⟨j0, by omega, e0⟩, fun j hj => ?_⟩
      by_cases hj' : j = k + 1
      · rw [hj']; omega
      · exact hle j (by omega)
theorem bst_next (D : Nat → List Int) (V : Nat → Int) (k : Nat) : bstF D V (k + 1) = if k = 0 ∨ V k < (bstF D V k).2 then (D k, V k) else bstF D V k := rfl
/-- How late the orders are, told by both. -/
theorem late_all (a : Int) (l : List S56) (hl7 : l.length ≤ 7) (h0 : 0 < l.length) : ∃ V : List Int → Int, ∀ o : List Int, o.Perm (numsI 0 l.length) → Ev (fun k => spec_l20Late.f k a l o) (V o) ∧ Ev (fun k => impl_mostLate.f k a l o) (V o) := by
  have H : ∀ o : List Int, ∃ v : Int, o.Perm (numsI 0 l.length) → Ev (fun k => spec_l20Late.f k a l o) v ∧ Ev (fun k => impl_mostLate.f k a l o) v := by
    intro o
    by_cases ho : o.Perm (numsI 0 l.length)
    · obtain ⟨r, h1, h2, h3⟩ := both_work a l o hl7 (by rw [ho.length_eq, numsI_length]) (fun x hx => by
        have := (numsI_mem l.length 0 x).1 (ho.mem_iff.1 hx)
        omega)
      exact ⟨mostB r.1 l, fun _ => ⟨spec_late h1 h3 h0 (by omega), impl_late h2 h3 h0 (by omega)⟩⟩
    · exact ⟨0, fun h => absurd h ho⟩
  exact ⟨fun o => Classical.choose (H o), fun o => Classical.choose_spec (H o)⟩
theorem best_told (a : Int) (l : List S56) (hl7 : l.length ≤ 7) (h0 : 0 < l.length) (V : List Int → Int) (hV : ∀ o : List Int, o.Perm (numsI 0 l.length) → Ev (fun k => spec_l20Late.f k a l o) (V o) ∧ Ev (fun k => impl_mostLate.f k a l o) (V o)) :
    Ev (fun k => spec_BestOrder.l0 k a l (l.length : Int) [] 0 0) ((bstF (decF l.length (numsI 0 l.length)) (fun r => V (decF l.length (numsI 0 l.length) r)) (fct l.length)).1, 0) ∧ Ev (fun k => impl_BestOrder.l0 k a l [] 0 (fct l.length : Int) 0) ((bstF (decF l.length (numsI 0 l.length)) (fun r => V (decF l.length (numsI 0 l.length) r)) (fct l.length)).1, 0) := by
  have hf := fct_le hl7
  generalize hD : decF l.length (numsI 0 l.length) = D
  generalize hVD : (fun r => V (D r)) = W
  have hW : ∀ r, W r = V (D r) := fun r => by rw [← hVD]
  have hR : ∀ r, r < fct l.length → (Ev (fun k => spec_OrderOfRank.f k (l.length : Int) (r : Int)) (D r, 0) ∧ Ev (fun k => impl_OrderOfRank.f k (l.length : Int) (r : Int)) (D r, 0)) ∧ (Ev (fun k => spec_l20Late.f k a l (D r)) (W r) ∧ Ev (fun k => impl_mostLate.f k a l (D r)) (W r)) := by
    intro r hr
    rw [hW, ← hD]
    exact ⟨both_rank l.length r hl7 hr, hV _ (decF_perm l.length _ r (numsI_length _ _) hr)⟩
  have H : ∀ (d r : Nat), r + d = fct l.length → Ev (fun k => spec_BestOrder.l0 k a l (l.length : Int) (bstF D W r).1 (bstF D W r).2 (r : Int)) ((bstF D W (fct l.length)).1, 0) ∧ Ev (fun k => impl_BestOrder.l0 k a l (bstF D W r).1 (bstF D W r).2 (fct l.length : Int) (r : Int)) ((bstF D W (fct l.length)).1, 0) := by
    intro d
    induction d with
    | zero =>
      intro r hr
      have : r = fct l.length := by omega
      subst this
      refine ⟨Ev.step (fun k => by rw [spec_BestOrder.l0]) ?_, Ev.step (fun k => by rw [impl_BestOrder.l0]) ?_⟩
      · simp only [if_pos (show (l.length : Int) > 0 by omega)]
        refine Ev.bind (factorial_spec l.length hl7) ?_
        simp only [decide_eq_false (show ¬ ((fct l.length : Nat) : Int) < ((fct l.length : Nat) : Int) by omega)]
        refine Ev.step (fun k => by rw [spec_BestOrder.j1]) ?_
        simp only [Bool.false_eq_true, if_false]
        exact Ev.now _
      · simp only [if_neg (show ¬ ((fct l.length : Nat) : Int) < ((fct l.length : Nat) : Int) by omega)]
        exact Ev.now _
    | succ d ih =>
      intro r hr
      obtain ⟨i1, i2⟩ := ih (r + 1) (by omega)
      obtain ⟨⟨k1, k2⟩, v1, v2⟩ := hR r (by omega)
      have ew : wrap64 ((r : Int) + 1) = ((r + 1 : Nat) : Int) := by rw [w64 (by omega) (by omega)]; omega
      rw [bst_next] at i1 i2
      refine ⟨Ev.step (fun k => by rw [spec_BestOrder.l0]) ?_, Ev.step (fun k => by rw [impl_BestOrder.l0]) ?_⟩
      · simp only [if_pos (show (l.length : Int) > 0 by omega)]
        refine Ev.bind (factorial_spec l.length hl7) ?_
        simp only [decide_eq_true (show (r : Int) < ((fct l.length : Nat) : Int) by omega)]
        refine Ev.step (fun k => by rw [spec_BestOrder.j1]) ?_
        simp only [if_true]
        refine Ev.bind k1 ?_
        refine Ev.bind v1 ?_
        simp only [ew]
        by_cases c0 : r = 0
        · rw [if_pos (Or.inl c0)] at i1
          simp only [if_pos (show (r : Int) = 0 by omega)]
          exact i1
        · simp only [if_neg (show ¬ (r : Int) = 0 by omega)]
          by_cases c1 : W r < (bstF D W r).2
          · rw [if_pos (Or.inr c1)] at i1
            simp only [if_pos c1]
            exact i1
          · rw [if_neg (by omega)] at i1
            simp only [if_neg c1]
            exact i1
      · simp only [if_pos (show (r : Int) < ((fct l.length : Nat) : Int) by omega), impl_length_ShopJob.f, Option.bind_some]
        refine Ev.bind k2 ?_
        refine Ev.bind v2 ?_
        simp only [ew]
        by_cases c0 : r = 0
        · rw [if_pos (Or.inl c0)] at i2
          simp only [if_pos (show (r : Int) = 0 by omega)]
          exact i2
        · simp only [if_neg (show ¬ (r : Int) = 0 by omega)]
          by_cases c1 : W r < (bstF D W r).2
          · rw [if_pos (Or.inr c1)] at i2
            simp only [if_pos c1]
            exact i2
          · rw [if_neg (by omega)] at i2
            simp only [if_neg c1]
            exact i2
  exact H (fct l.length) 0 (by omega)
/-- The best order of a shop, told by both. -/
theorem best_of (a : Int) (l : List S56) (h : l.length ≤ 1048576) (hs : shopB a l = true) (hl7 : l.length ≤ 7) : ∃ o : List Int, Ev (fun k => spec_BestOrder.f k a l) (o, 0) ∧ Ev (fun k => impl_BestOrder.f k a l) (o, 0) ∧ o.Perm (numsI 0 l.length) ∧
    (0 < l.length → ∃ V : List Int → Int, (∀ p : List Int, p.Perm (numsI 0 l.length) → Ev (fun k => spec_l20Late.f k a l p) (V p) ∧ Ev (fun k => impl_mostLate.f k a l p) (V p)) ∧ ∀ p : List Int, p.Perm (numsI 0 l.length) → V o ≤ V p) := by
  simp only [spec_BestOrder.f, impl_BestOrder.f]
  by_cases h0 : 0 < l.length
  · obtain ⟨V, hV⟩ := late_all a l hl7 h0
    obtain ⟨b1, b2⟩ := best_told a l hl7 h0 V hV
    obtain ⟨k, hk⟩ : ∃ k, fct l.length = k + 1 := ⟨fct l.length - 1, by have := fct_pos l.length; omega⟩
    obtain ⟨⟨j, hj, ej⟩, hle⟩ := bstF_least (decF l.length (numsI 0 l.length)) (fun r => V (decF l.length (numsI 0 l.length) r)) k
    rw [← hk] at ej hle hj
    have eo : (bstF (decF l.length (numsI 0 l.length)) (fun r => V (decF l.length (numsI 0 l.length) r)) (fct l.length)).1 = decF l.length (numsI 0 l.length) j := by rw [ej]
    rw [eo] at b1 b2
    refine ⟨decF l.length (numsI 0 l.length) j, Ev.bind (ev_eq (spec_IsShop a l h) hs) ?_, Ev.bind (ev_eq (impl_IsShop a l h) hs) ?_, decF_perm _ _ _ (numsI_length _ _) hj, fun _ => ⟨V, hV, fun p hp => ?_⟩⟩
    · simp only [if_true]
      exact b1
    · simp only [if_true, Option.bind_some, if_neg (show ¬ (l.length : Int) = 0 by omega), impl_length_ShopJob.f]
      exact Ev.bind (factorial_impl l.length hl7) b2
    · obtain ⟨r, hr, er⟩ := decF_onto l.length (numsI 0 l.length) p (numsI_length _ _) hp
      have := hle r hr
      rw [ej] at this
      simp only [er] at this
      exact this
  · have hl : (l.length : Int) = 0 := by omega
    refine ⟨[], Ev.bind (ev_eq (spec_IsShop a l h) hs) ?_, Ev.bind (ev_eq (impl_IsShop a l h) hs) ?_, by rw [show l.length = 0 by omega]; exact List.Perm.refl _, fun h => absurd h h0⟩
    · simp only [if_true]
      refine Ev.step (fun k => by rw [spec_BestOrder.l0]) ?_
      simp only [if_neg (show ¬ (l.length : Int) > 0 by omega)]
      refine Ev.step (fun k => by rw [spec_BestOrder.j1]) ?_
      simp only [Bool.false_eq_true, if_false]
      exact Ev.now _
    · simp only [if_true, Option.bind_some, if_pos hl]
      exact Ev.now _
/-- A source that stands somewhere in its code. -/
def Src (c : List Int) (a s : Int) : Prop := (∀ x ∈ c, 0 ≤ x ∧ x ≤ 255) ∧ c.length ≤ 4096 ∧ 0 ≤ a ∧ a ≤ (c.length : Int) ∧ 0 ≤ s ∧ s < 2147483647
theorem rd_byte {c : List Int} (h : ∀ x ∈ c, 0 ≤ x ∧ x ≤ 255) (i : Int) : 0 ≤ rd c i ∧ rd c i ≤ 255 := by
  unfold rd
  rw [List.getD_eq_getElem?_getD]
  cases e : c[i.toNat]? with
  | none => simp
  | some v => exact h v (List.mem_of_getElem? e)
theorem tmod_range {x n : Int} (hx : 0 ≤ x) (hn : 1 < n) : 0 ≤ Int.tmod x n ∧ Int.tmod x n < n := by
  rw [Int.tmod_eq_emod_of_nonneg hx]
  exact ⟨Int.emod_nonneg _ (by omega), Int.emod_lt_of_pos _ (by omega)⟩
theorem seed_step {s : Int} (h0 : 0 ≤ s) (h1 : s < 2147483647) : 0 ≤ Int.tmod (wrap64 ((wrap64 (s * 48271)) + 61)) 2147483647 ∧ Int.tmod (wrap64 ((wrap64 (s * 48271)) + 61)) 2147483647 < 2147483647 := by
  rw [w64 (x := s * 48271) (by omega) (by omega), w64 (by omega) (by omega)]
  exact tmod_range (by omega) (by omega)
theorem draw_next {c : List Int} {a s : Int} (h : Src c a s) (n : Int) : ∃ v a' s', spec_l01Next.f c a s n = some (v, a', s') ∧ Src c a' s' ∧ (n ≤ 1 → v = 0) ∧ (1 < n → 0 ≤ v ∧ v < n) := by
  obtain ⟨hb, hl, ha, ha1, hs, hs1⟩ := h
  by_cases hn : n ≤ 1
  · exact ⟨0, a, s, by simp only [spec_l01Next.f, if_pos hn], ⟨hb, hl, ha, ha1, hs, hs1⟩, fun _ => rfl, fun h => by omega⟩
  · have hn0 : ¬ n = 0 := by omega
    obtain ⟨k0, k1⟩ := seed_step hs hs1
    generalize hk : Int.tmod (wrap64 ((wrap64 (s * 48271)) + 61)) 2147483647 = t at k0 k1
    have hx : Int.tdiv t 31 = t / 31 := Int.tdiv_eq_ediv_of_nonneg k0
    have hx1 : wrap64 (t / 31) = t / 31 := w64 (by omega) (by omega)
    by_cases hlt : a < (c.length : Int)
    · have e1 : wrap64 (a + 1) = a + 1 := w64 (by omega) (by omega)
      have e2 : wrap64 (a + 1 - 1) = a := by rw [show a + 1 - 1 = a by omega]; exact w64 (by omega) (by omega)
      obtain ⟨b0, b1⟩ := rd_byte hb a
      have e3 : wrap64 (rd c a) = rd c a := w64 (by omega) (by omega)
      have e4 : wrap64 (t / 31 + rd c a) = t / 31 + rd c a := w64 (by omega) (by omega)
      have hS : Src c (a + 1) t := ⟨hb, hl, by omega, by omega, k0, k1⟩
      by_cases h256 : n ≤ 256
      · by_cases he : Int.tmod (a + 1) 2 = 0
        · refine ⟨Int.tmod (rd c a) n, a + 1, t, ?_, hS, fun h => by omega, fun h => tmod_range b0 h⟩
          simp only [spec_l01Next.f, if_neg hn, if_pos hlt, if_pos ha, if_pos h256, e1, e2, e3, hk, if_pos he, if_neg hn0]
        · refine ⟨Int.tmod (t / 31 + rd c a) n, a + 1, t, ?_, hS, fun h => by omega, fun h => tmod_range (by omega) h⟩
          simp only [spec_l01Next.f, if_neg hn, if_pos hlt, if_pos ha, if_pos h256, e1, e2, e3, e4, hk, hx, hx1, if_neg he, if_neg hn0]
      · refine ⟨Int.tmod (t / 31 + rd c a) n, a + 1, t, ?_, hS, fun h => by omega, fun h => tmod_range (by omega) h⟩
        simp only [spec_l01Next.f, if_neg hn, if_pos hlt, if_pos ha, if_neg h256, e1, e3, e4, hk, hx, hx1, if_neg hn0]
    · refine ⟨Int.tmod (t / 31) n, a, t, ?_, ⟨hb, hl, ha, ha1, k0, k1⟩, fun h => by omega, fun h => tmod_range (by omega) h⟩
      simp only [spec_l01Next.f, if_neg hn, if_neg hlt, hk, hx, hx1, if_neg hn0]
theorem draw_pick {c : List Int} {a s : Int} (h : Src c a s) (l : List Int) (h0 : 0 < l.length) (h1 : l.length ≤ 1000) : ∃ v a' s', spec_l01Pick.f c a s l = some (v, a', s') ∧ Src c a' s' ∧ v ∈ l := by
  obtain ⟨v, a', s', e, hS, hv0, hv1⟩ := draw_next h (l.length : Int)
  have hv : 0 ≤ v ∧ v < (l.length : Int) := by
    by_cases hn : (l.length : Int) ≤ 1
    · have := hv0 hn; omega
    · exact hv1 (by omega)
  refine ⟨rd l v, a', s', by simp only [spec_l01Pick.f, e, Option.bind_some, if_pos hv.1, if_pos hv.2], hS, ?_⟩
  have : v.toNat < l.length := by omega
  unfold rd
  rw [List.getD_eq_getElem?_getD, List.getElem?_eq_getElem this]
  exact List.getElem_mem this
theorem draw_from (c : List Int) (hb : ∀ x ∈ c, (Lit.int .u8 x).wf = true) (hl : c.length ≤ 4096) : ∃ s, Ev (fun k => spec_l01From.f k c) (c, 0, s) ∧ Src c 0 s := by
  have hb' : ∀ x ∈ c, 0 ≤ x ∧ x ≤ 255 := by
    intro x hx
    have := hb x hx
    simp only [Lit.wf, IntKind.min, IntKind.max, IntKind.signed, IntKind.bits, Bool.and_eq_true, decide_eq_true_eq] at this
    simp at this
    omega
  have H := loop_list c (fun p t => ∀ s, 0 ≤ s → s < 2147483647 → ∃ s', Ev (fun k => spec_l01From.l0 k c (p.length : Int) c 0 s) (c, 0, s') ∧ 0 ≤ s' ∧ s' < 2147483647) ?_ ?_ 88007 (by omega) (by omega)
  · obtain ⟨s', h, h0, h1⟩ := H
    exact ⟨s', h, hb', hl, by omega, by omega, h0, h1⟩
  · intro s h0 h1
    refine ⟨s, Ev.step (fun k => by rw [spec_l01From.l0]) ?_, h0, h1⟩
    simp only [if_neg (nlt_self c)]
    exact Ev.now _
  · intro p x t he ih s h0 h1
    by_cases h64 : (p.length : Int) < 64
    · have hx : rd c (p.length : Int) = x := mid_get he 0
      obtain ⟨b0, b1⟩ := hb' x (by rw [he]; simp)
      have e : wrap64 (wrap64 (s * 71) + wrap64 x) = s * 71 + x := by rw [w64 (x := s * 71) (by omega) (by omega), w64 (x := x) (by omega) (by omega), w64 (by omega) (by omega)]
      obtain ⟨k0, k1⟩ := tmod_range (x := s * 71 + x) (n := 2147483647) (by omega) (by omega)
      obtain ⟨s', h, g0, g1⟩ := ih (Int.tmod (s * 71 + x) 2147483647) k0 k1
      refine ⟨s', Ev.step (fun k => by rw [spec_l01From.l0]) ?_, g0, g1⟩
      simp only [if_pos (mid_lt he), if_pos h64, if_pos (nat_nn p.length), hx, e, mid_next he (by omega)]
      exact h
    · refine ⟨s, Ev.step (fun k => by rw [spec_l01From.l0]) ?_, h0, h1⟩
      simp only [if_pos (mid_lt he), if_neg h64]
      exact Ev.now _
theorem draw_shop_l0 {c : List Int} : ∀ (d : Nat) (l : List S56) (n a s : Int), n ≤ d → l.length + d ≤ 5 → Src c a s → ∃ q r a' s', Ev (fun k => spec_l20Draw.l0 k l n c a s) (q, r, a', s') ∧ Src c a' s' ∧ r.length ≤ 8 := by
  intro d
  induction d with
  | zero =>
    intro l n a s hn hl h
    obtain ⟨v1, a1, s1, e1, h1, _⟩ := draw_next h 40
    by_cases g0 : v1 = 0
    · obtain ⟨v2, a2, s2, e2, h2, _⟩ := draw_pick h1 [-1, 9, 10] (by decide) (by decide)
      obtain ⟨v3, a3, s3, e3, h3, _⟩ := draw_pick h2 [-1, 0, 100000, 100001] (by decide) (by decide)
      obtain ⟨v4, a4, s4, e4, h4, _⟩ := draw_next h3 30
      obtain ⟨v5, a5, s5, e5, h5, _⟩ := draw_pick h4 [0, 10, v4] (by simp) (by simp)
      refine ⟨v5, l ++ [⟨v2, v3, 0⟩], a5, s5, Ev.step (fun k => by rw [spec_l20Draw.l0]) ?_, h5, by simp; omega⟩
      simp only [if_neg (show ¬ n > 0 by omega), e1, Option.bind_some, if_pos g0, e2, e3, if_pos (show l.length < 5864062014805 by omega), e4, e5]
      exact Ev.now _
    · by_cases g1 : v1 = 1
      · obtain ⟨v2, a2, s2, e2, h2, _⟩ := draw_pick h1 [-1, 100000, 100001] (by decide) (by decide)
        refine ⟨v2, l, a2, s2, Ev.step (fun k => by rw [spec_l20Draw.l0]) ?_, h2, by omega⟩
        simp only [if_neg (show ¬ n > 0 by omega), e1, Option.bind_some, if_neg g0, if_pos g1, e2]
        exact Ev.now _
      · by_cases g2 : v1 = 2
        · refine ⟨5, List.replicate 8 z56, a1, s1, Ev.step (fun k => by rw [spec_l20Draw.l0]) ?_, h1, by simp⟩
          simp only [if_neg (show ¬ n > 0 by omega), e1, Option.bind_some, if_neg g0, if_neg g1, if_pos g2]
          exact Ev.now _
        · obtain ⟨v2, a2, s2, e2, h2, _⟩ := draw_next h1 30
          obtain ⟨v3, a3, s3, e3, h3, _⟩ := draw_pick h2 [0, 10, v2] (by simp) (by simp)
          refine ⟨v3, l, a3, s3, Ev.step (fun k => by rw [spec_l20Draw.l0]) ?_, h3, by omega⟩
          simp only [if_neg (show ¬ n > 0 by omega), e1, Option.bind_some, if_neg g0, if_neg g1, if_neg g2, e2, e3]
          exact Ev.now _
  | succ d ih =>
    intro l n a s hn hl h
    by_cases hp : n > 0
    · obtain ⟨v1, a1, s1, e1, h1, _⟩ := draw_next h 3
      obtain ⟨v2, a2, s2, e2, h2, _⟩ := draw_next h1 40
      obtain ⟨v3, a3, s3, e3, h3, _⟩ := draw_next h2 120
      obtain ⟨q, r, a', s', hr, h', hl'⟩ := ih (l ++ [⟨v1, v2, v3⟩]) (wrap64 (n - 1)) a3 s3 (by rw [w64 (by omega) (by omega)]; omega) (by simp; omega) h3
      refine ⟨q, r, a', s', Ev.step (fun k => by rw [spec_l20Draw.l0]) ?_, h', hl'⟩
      simp only [if_pos hp, e1, e2, e3, Option.bind_some, if_pos (show l.length < 5864062014805 by omega)]
      exact hr
    · exact ih l n a s (by omega) (by omega) h
theorem draw_shop {c : List Int} {a s : Int} (h : Src c a s) : ∃ q l a' s', Ev (fun k => spec_l20Draw.f k c a s) (q, l, a', s') ∧ Src c a' s' ∧ l.length ≤ 8 := by
  obtain ⟨v1, a1, s1, e1, h1, m0, m1⟩ := draw_next h 6
  have := m1 (by omega)
  obtain ⟨q, l, a', s', hr, h', hl⟩ := draw_shop_l0 (c := c) 5 [] v1 a1 s1 (by omega) (by simp) h1
  refine ⟨q, l, a', s', ?_, h', hl⟩
  simp only [spec_l20Draw.f, e1, Option.bind_some]
  exact hr
theorem likeInts (l : List Int) (h : l.length ≤ 9000000000000000000) : Ev (fun k => laws_likeInts.f k l l) true := by
  simp only [laws_likeInts.f, if_true]
  refine loop_list l (fun p s => Ev (fun k => laws_likeInts.l0 k l l (p.length : Int)) true) ?_ ?_
  · refine Ev.step (fun k => by rw [laws_likeInts.l0]) ?_
    simp only [if_neg (nlt_self l)]
    exact Ev.now _
  · intro p x s he ih
    refine Ev.step (fun k => by rw [laws_likeInts.l0]) ?_
    simp only [if_pos (mid_lt he), if_pos (nat_nn p.length), if_true, mid_next he (by omega)]
    exact ih
theorem hasInt (l : List Int) (y : Int) (h : l.length ≤ 9000000000000000000) : Ev (fun k => laws_hasInt.f k l y) (decide (y ∈ l)) := by
  simp only [laws_hasInt.f]
  refine loop_list l (fun p s => Ev (fun k => laws_hasInt.l0 k l y (p.length : Int)) (decide (y ∈ s))) ?_ ?_
  · refine Ev.step (fun k => by rw [laws_hasInt.l0]) ?_
    simp only [if_neg (nlt_self l)]
    exact ev_eq (Ev.now _) (by simp)
  · intro p x s he ih
    have hx : rd l (p.length : Int) = x := mid_get he 0
    refine Ev.step (fun k => by rw [laws_hasInt.l0]) ?_
    simp only [if_pos (mid_lt he), if_pos (nat_nn p.length), hx, mid_next he (by omega)]
    by_cases h' : x = y
    · simp only [if_pos h']
      exact ev_eq (Ev.now _) (by simp [h'])
    · simp only [if_neg h']
      exact ev_eq ih (by simp [show ¬ y = x from fun e => h' e.symm])
theorem best_loop {a : Int} {l : List S56} (h7 : l.length ≤ 1000) {A B C : Int} (h1 : A ≤ B) (h2 : A ≤ C) (h3 : a > 0 ∨ A = B) : Ev (fun k => laws_FnBestOrders.l0 k a l A 0 B 0 C 0 ((kF [] l).length : Int) 0 [] 0) true := by
  have H := loop_list l (fun p s => ∀ acc : List Int, acc.length ≤ p.length → kF acc s = kF [] l → Ev (fun k => laws_FnBestOrders.l0 k a l A 0 B 0 C 0 ((kF [] l).length : Int) 0 acc (p.length : Int)) true) ?_ ?_
  · exact H [] (by simp) rfl
  · intro acc ha he
    have e : acc = kF [] l := by rw [← he]; rfl
    refine Ev.step (fun k => by rw [laws_FnBestOrders.l0]) ?_
    simp only [if_neg (nlt_self l), if_true, if_pos h1, if_pos h2, e]
    by_cases c : a > 0
    · simp only [if_pos c]
      exact ev_eq (Ev.now _) (by simp)
    · rcases h3 with h3 | h3
      · exact absurd h3 c
      · simp only [if_neg c, if_pos h3]
        exact ev_eq (Ev.now _) (by simp)
  · intro p x s he ih acc ha hk
    have hp := mid_lt he
    have hx : rd_T56 l (p.length : Int) = x := by unfold rd_T56; exact mid_get he _
    refine Ev.step (fun k => by rw [laws_FnBestOrders.l0]) ?_
    simp only [if_pos hp, if_pos (nat_nn p.length), hx, mid_next he (by omega)]
    refine Ev.bind (hasInt acc x.f0 (by omega)) ?_
    by_cases hm : x.f0 ∈ acc
    · have e : kF acc (x :: s) = kF acc s := by simp [kF, hm]
      simp only [decide_eq_true hm, if_true]
      exact ih acc (by simp; omega) (by rw [← e]; exact hk)
    · have e : kF acc (x :: s) = kF (acc ++ [x.f0]) s := by simp [kF, hm]
      simp only [decide_eq_false hm, Bool.false_eq_true, if_false, if_pos (show acc.length < 17592186044416 by omega)]
      exact ih (acc ++ [x.f0]) (by simp; omega) (by rw [← e]; exact hk)
theorem draw_best (c : List Int) (hb : ∀ x ∈ c, (Lit.int .u8 x).wf = true) (hl : c.length ≤ 4096) : ∃ q l, Ev (fun k => spec_DrawBestOrder.f k c) (q, l) ∧ l.length ≤ 8 := by
  obtain ⟨s0, h0, hs0⟩ := draw_from c hb hl
  obtain ⟨q, l, a1, s1, h1, hs1, l1⟩ := draw_shop hs0
  simp only [spec_DrawBestOrder.f]
  exact ⟨q, l, Ev.bind h0 (Ev.bind h1 (Ev.now _)), l1⟩
theorem orderB_perm {o : List Int} {n : Nat} (hp : o.Perm (numsI 0 n)) (hn : n ≤ 64) : orderB o = true := by
  have hl : o.length = n := by rw [hp.length_eq, numsI_length]
  simp only [orderB, Bool.and_eq_true, decide_eq_true_eq]
  refine ⟨ordF_of _ _ (hp.nodup_iff.2 (numsI_nodup _ _)) (fun x hx => by simp) (fun x hx => ?_), by omega⟩
  have := (numsI_mem _ _ _).1 (hp.mem_iff.1 hx)
  omega
theorem code_perm {a : Int} {l : List S56} (hs : shopB a l = true) {o : List Int} (hp : o.Perm (numsI 0 l.length)) : shopCode a l o = 0 := by
  obtain ⟨_, _, h7⟩ := shop_a hs
  have hl : o.length = l.length := by rw [hp.length_eq, numsI_length]
  unfold shopCode
  rw [if_pos hs, if_pos (orderB_perm hp (by omega)), if_pos (by omega)]
theorem due_told (a : Int) (l : List S56) (h : l.length ≤ 1048576) : ∃ r : List Int × Int, Ev (fun k => spec_DueOrder.f k a l) r ∧ Ev (fun k => impl_DueOrder.f k a l) r ∧ r = if shopB a l = true then (sortF (ltD l) l.length, 0) else ([], 1) := by
  simp only [spec_DueOrder.f, impl_DueOrder.f]
  have s1 := spec_IsShop a l h
  have i1 := impl_IsShop a l h
  cases hc : shopB a l <;> rw [hc] at s1 i1
  · exact ⟨([], 1), Ev.bind s1 (by simp only [Bool.false_eq_true, if_false]; exact Ev.now _), Ev.bind i1 (by simp only [Bool.false_eq_true, if_false]; exact Ev.now _), by simp⟩
  · have h7 := (shop_a hc).2.2
    refine ⟨(sortF (ltD l) l.length, 0), Ev.bind s1 (by simp only [if_true]; exact spec_due l (by omega)), Ev.bind i1 ?_, by simp⟩
    simp only [if_true, impl_dueOrder.f]
    exact Ev.bind (Ev.bind (sorted_impl_dueOrder_1 (cmp_due l) (ltD_O l) (ltD_A l) h7) (Ev.now _)) (Ev.now _)
theorem most_told {a : Int} {l : List S56} (h : l.length ≤ 1048576) (h0 : 0 < l.length) {o : List Int} (hc : shopCode a l o = 0) {v : Int} (hv : Ev (fun k => impl_mostLate.f k a l o) v) : Ev (fun k => impl_MostLate.f k a l o) (v, 0) := by
  have ho : o.length = l.length := (shopCode_zero hc).2.2.1
  simp only [impl_MostLate.f]
  refine Ev.bind (ev_eq (impl_shopCode a l o h (by omega)) hc) ?_
  simp only [if_true, if_neg (show ¬ (l.length : Int) = 0 by omega)]
  exact Ev.bind hv (Ev.now _)
theorem FnBestOrders : laws_FnBestOrders.Pure := by
  intro c hl hb
  refine Ev.rounds (g := fun k => laws_FnBestOrders.f k c) ?_
  simp only [laws_FnBestOrders.f, laws_big.f, Option.bind_some]
  by_cases hbig : (c.length : Int) > 4096
  · simp only [decide_eq_true hbig, if_true]
    exact Ev.now _
  simp only [decide_eq_false hbig, Bool.false_eq_true, if_false]
  obtain ⟨q, l, hdr, hl8⟩ := draw_best c hb (by omega)
  have hlm : l.length ≤ 1048576 := by omega
  obtain ⟨d, d1, d2, d3⟩ := due_told q l hlm
  obtain ⟨f, f1, f2, f3⟩ := fam_told q l hlm
  have ia := impl_IsShop q l hlm
  cases hs : shopB q l
  · rw [hs] at d3 f3 ia
    simp only [Bool.false_eq_true, if_false] at d3 f3
    have b1 : Ev (fun k => spec_BestOrder.f k q l) ([], 1) := by
      simp only [spec_BestOrder.f]
      exact Ev.bind (ev_eq (spec_IsShop q l hlm) hs) (by simp only [Bool.false_eq_true, if_false]; exact Ev.now _)
    have b2 : Ev (fun k => impl_BestOrder.f k q l) ([], 1) := by
      simp only [impl_BestOrder.f]
      exact Ev.bind ia (by simp only [Bool.false_eq_true, if_false]; exact Ev.now _)
    refine Ev.bind hdr ?_
    refine Ev.bind b2 ?_
    refine Ev.bind b1 ?_
    refine Ev.bind d2 ?_
    refine Ev.bind d1 ?_
    refine Ev.bind f2 ?_
    refine Ev.bind f1 ?_
    simp only [if_true, d3, f3]
    refine Ev.bind (likeInts [] (by simp)) ?_
    simp only [if_true]
    refine Ev.bind (likeInts [] (by simp)) ?_
    simp only [if_true]
    refine Ev.bind (likeInts [] (by simp)) ?_
    simp only [if_true]
    refine Ev.bind ia ?_
    refine Ev.step (fun k => by rw [laws_FnBestOrders.j0]) ?_
    simp only [show ((false : Bool) != ((1 : Int) == 0)) = false from rfl, Bool.false_eq_true, if_false, if_neg (show ¬ (1 : Int) = 0 by decide)]
    refine Ev.step (fun k => by rw [laws_FnBestOrders.j1]) ?_
    simp only [if_true]
    exact Ev.now _
  · rw [hs] at d3 f3 ia
    simp only [if_true] at d3 f3
    obtain ⟨_, _, h7⟩ := shop_a hs
    obtain ⟨o, b1, b2, bp, bV⟩ := best_of q l hlm hs h7
    have hol : o.length = l.length := by rw [bp.length_eq, numsI_length]
    refine Ev.bind hdr ?_
    refine Ev.bind b2 ?_
    refine Ev.bind b1 ?_
    refine Ev.bind d2 ?_
    refine Ev.bind d1 ?_
    refine Ev.bind f2 ?_
    refine Ev.bind f1 ?_
    simp only [if_true, d3, f3]
    refine Ev.bind (likeInts o (by omega)) ?_
    simp only [if_true]
    refine Ev.bind (likeInts (sortF (ltD l) l.length) (by rw [sortF_length]; omega)) ?_
    simp only [if_true]
    refine Ev.bind (likeInts (sortF (ltF l) l.length) (by rw [sortF_length]; omega)) ?_
    simp only [if_true]
    refine Ev.bind ia ?_
    refine Ev.step (fun k => by rw [laws_FnBestOrders.j0]) ?_
    simp only [show ((true : Bool) != ((0 : Int) == 0)) = false from rfl, Bool.false_eq_true, if_false, if_true]
    refine Ev.step (fun k => by rw [laws_FnBestOrders.j1]) ?_
    by_cases h0 : l.length = 0
    · simp only [show ((l.length : Int) == 0) = true from beq_iff_eq.2 (by omega), if_true]
      exact Ev.now _
    · simp only [show ((l.length : Int) == 0) = false from beq_eq_false_iff_ne.2 (by omega), Bool.false_eq_true, if_false]
      obtain ⟨V, hV, hmin⟩ := bV (by omega)
      have pd := (sortF_all (ltD l) l.length).symm
      have pf := (sortF_all (ltF l) l.length).symm
      have hrng : ∀ p : List Int, p.Perm (numsI 0 l.length) → p.Nodup ∧ (∀ x ∈ p, 0 ≤ x ∧ x < (l.length : Int)) ∧ p.length = l.length := fun p hp => ⟨hp.nodup_iff.2 (numsI_nodup _ _), fun x hx => by have := (numsI_mem _ _ _).1 (hp.mem_iff.1 hx); omega, by rw [hp.length_eq, numsI_length]⟩
      refine Ev.bind (most_told hlm (by omega) (code_perm hs bp) (hV o bp).2) ?_
      refine Ev.bind (most_told hlm (by omega) (code_perm hs pd) (hV _ pd).2) ?_
      refine Ev.bind (most_told hlm (by omega) (code_perm hs pf) (hV _ pf).2) ?_
      obtain ⟨n1, n2, n3⟩ := hrng _ pf
      obtain ⟨df, w1, _, _, _⟩ := work_gen hs n1 n2 n3
      have hcs : Ev (fun k => impl_CountSetups.f k q l (sortF (ltF l) l.length)) (((kF [] l).length : Int), 0) := by
        simp only [impl_CountSetups.f]
        refine Ev.bind (ev_eq (impl_shopCode q l _ hlm (by omega)) (code_perm hs pf)) ?_
        simp only [if_true]
        refine Ev.bind w1 ?_
        rw [fam_count hs]
        exact Ev.now _
      refine Ev.bind hcs ?_
      refine best_loop (by omega) (hmin _ pd) (hmin _ pf) ?_
      by_cases hq : q > 0
      · exact Or.inl hq
      · have hq0 : q = 0 := by have := (shop_a hs).1; omega
        refine Or.inr ?_
        have h1 := hmin _ pd
        obtain ⟨m1, m2, m3⟩ := hrng _ bp
        obtain ⟨k1, k2, k3⟩ := hrng _ pd
        obtain ⟨dd, x1, x2, x3, x4⟩ := work_gen hs m1 m2 m3
        obtain ⟨de, y1, y2, y3, y4⟩ := work_gen hs k1 k2 k3
        have e1 : V o = mostB dd l := ev_det (hV o bp).2 (impl_late x1 x3 (by omega) hlm)
        have e2 : V (sortF (ltD l) l.length) = mostB de l := ev_det (hV _ pd).2 (impl_late y1 y3 (by omega) hlm)
        have h2 := due_least hs (by omega) (bp.trans pd.symm) (y4 hq0) (x4 hq0)
        omega

end Go.Proofs.Ytcieonfpmchdkaa.Pure
