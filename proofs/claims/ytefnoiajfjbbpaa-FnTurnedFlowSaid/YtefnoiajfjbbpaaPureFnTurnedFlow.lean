/- The pure statement of law FnTurnedFlow: what the printed functions compute answers true at every input. No condition. -/
import Derived.Test.YtefnoiajfjbbpaaPFnTurnedFlowx9
set_option linter.unusedVariables false
set_option linter.unusedSimpArgs false
namespace Go.Proofs.Ytefnoiajfjbbpaa.Pure
open Go.RowKit Go.Proofs.Ytefnoiajfjbbpaa.PFnTurnedFlow Go.Proofs.YtefnoiajfjbbpaaW.PrintWords Go.Proofs.YtefnoiajfjbbpaaW.PrintLast Go.Proofs.YtefnoiajfjbbpaaW.PrintMore


/-! #### Numbers and rounds -/
theorem w64 {x : Int} (h1 : -9223372036854775808 ≤ x) (h2 : x ≤ 9223372036854775807) : wrap64 x = x := by
  unfold wrap64
  omega
theorem wf64 {x : Int} (h : (Lit.int .i64 x).wf = true) : -9223372036854775808 ≤ x ∧ x ≤ 9223372036854775807 := by
  simp only [Lit.wf, IntKind.min, IntKind.max, IntKind.signed, IntKind.bits, Bool.and_eq_true, decide_eq_true_eq, if_true] at h
  omega
theorem ev_of {α : Type} {g : Nat → Option α} {r : α} (h : ∀ k, g k = some r) : Ev g r := ⟨0, fun k _ => h k⟩
theorem ev_eq {α : Type} {g : Nat → Option α} {r r' : α} (h : Ev g r) (e : r = r') : Ev g r' := e ▸ h
/-- A loop over a list: what lies behind, what lies ahead. -/
theorem loop_list {α : Type} (l : List α) (Q : List α → List α → Prop) (h0 : Q l []) (hs : ∀ p x s, l = p ++ x :: s → Q (p ++ [x]) s → Q p (x :: s)) : Q [] l := by
  have h : ∀ s p, l = p ++ s → Q p s := by
    intro s
    induction s with
    | nil => intro p hp; rw [List.append_nil] at hp; rw [← hp]; exact h0
    | cons x s ih => intro p hp; exact hs p x s hp (ih (p ++ [x]) (by simp [hp]))
  exact h l [] rfl
theorem mid_lt {α : Type} {l p s : List α} {x : α} (h : l = p ++ x :: s) : (p.length : Int) < (l.length : Int) := by
  rw [h, List.length_append, List.length_cons]; omega
theorem mid_next {α : Type} {l p s : List α} {x : α} (h : l = p ++ x :: s) (hl : l.length ≤ 9223372036854775807) : wrap64 ((p.length : Int) + 1) = ((p ++ [x]).length : Int) := by
  have := mid_lt h
  rw [w64 (by omega) (by omega), List.length_append]; simp
theorem mid_get {α : Type} {l p s : List α} {x : α} (h : l = p ++ x :: s) (z : α) : l.getD (p.length : Int).toNat z = x := by
  rw [h]; simp
theorem get_mid {α : Type} (p s : List α) (x z : α) : (p ++ x :: s).getD (p.length : Int).toNat z = x := by simp
theorem nat_nn (n : Nat) : (0 : Int) ≤ (n : Int) := by omega
theorem nlt_self {α : Type} (l : List α) : ¬ ((l.length : Int) < (l.length : Int)) := by omega
theorem set_mid {α : Type} (p s : List α) (x y : α) : (p ++ x :: s).set ((p.length : Int).toNat) y = p ++ y :: s := by
  rw [Int.toNat_natCast, List.set_append_right _ _ (Nat.le_refl _)]; simp
theorem nil_or_snoc {α : Type} (p : List α) : p = [] ∨ ∃ q y, p = q ++ [y] := by
  rcases List.eq_nil_or_concat p with h | ⟨q, y, h⟩
  · exact .inl h
  · exact .inr ⟨q, y, by rw [h, List.concat_eq_append]⟩
theorem loop_all {α : Type} (l : List α) (Q : List α → List α → Prop) (h0 : Q l []) (hs : ∀ p x s, l = p ++ x :: s → Q (p ++ [x]) s → Q p (x :: s)) : ∀ s p, l = p ++ s → Q p s := by
  intro s
  induction s with
  | nil => intro p hp; rw [List.append_nil] at hp; rw [← hp]; exact h0
  | cons x s ih => intro p hp; exact hs p x s hp (ih (p ++ [x]) (by simp [hp]))
def inR (a lo hi : Int) : Bool := decide (lo ≤ a) && decide (a ≤ hi)
theorem inR_iff {a lo hi : Int} : inR a lo hi = true ↔ lo ≤ a ∧ a ≤ hi := by simp [inR]
theorem l01In (a lo hi : Int) : spec_l01In.f a lo hi = some (inR a lo hi) := by
  unfold spec_l01In.f inR
  split
  · rename_i h; rw [decide_eq_true (show lo ≤ a from h), Bool.true_and]
  · rename_i h; rw [decide_eq_false (show ¬ lo ≤ a from h), Bool.false_and]
theorem inRange (a lo hi : Int) : impl_inRange.f a lo hi = some (inR a lo hi) := by
  unfold impl_inRange.f inR
  split
  · rename_i h; rw [decide_eq_true (show lo ≤ a from h), Bool.true_and]
  · rename_i h; rw [decide_eq_false (show ¬ lo ≤ a from h), Bool.false_and]
def okFlow (x : S62) : Bool := inR x.f0 0 100000 && inR x.f1 0 100000
theorem spec_AreFlowJobs (l : List S62) (h : l.length ≤ 1048576) : Ev (fun k => spec_AreFlowJobs.f k l) (l.all okFlow && decide (l.length ≤ 7)) := by
  refine loop_list l (fun p s => Ev (fun k => spec_AreFlowJobs.l0 k l (p.length : Int)) (s.all okFlow && decide (l.length ≤ 7))) ?_ ?_
  · refine Ev.step (fun k => by rw [spec_AreFlowJobs.l0]) ?_
    simp only [if_neg (nlt_self l), List.all_nil, Bool.true_and]
    exact ev_eq (Ev.now _) (decide_eq_decide.2 (by omega))
  · intro p x s he ih
    refine Ev.step (fun k => by rw [spec_AreFlowJobs.l0]) ?_
    simp only [if_pos (mid_lt he), if_pos (nat_nn p.length), mid_next he (by omega), rd_T62, mid_get he, l01In, Option.bind_some, List.all_cons]
    cases h0 : inR x.f0 0 100000 <;> cases h1 : inR x.f1 0 100000 <;> simp [okFlow, h0, h1] <;> first | exact Ev.now _ | simpa [mid_next he (by omega)] using ih
theorem impl_AreFlowJobs_1_ok (x : S62) : impl_AreFlowJobs_1.f x.f0 x.f1 = some (!(okFlow x)) := by
  simp only [impl_AreFlowJobs_1.f, impl_isMinutes.f, inRange, Option.bind_some, okFlow]
  cases inR x.f0 0 100000 <;> cases inR x.f1 0 100000 <;> rfl
theorem contains_impl_AreFlowJobs_1 (l : List S62) (h : l.length ≤ 1048576) : Ev (fun k => slices_ContainsFunc_at_impl_AreFlowJobs_1.f k l) (!(l.all okFlow)) := by
  have H := loop_list l (fun p s => ∃ r, Ev (fun k => slices_IndexFunc_at_impl_AreFlowJobs_1.l0 k l (l.length : Int) (p.length : Int)) r ∧ decide (r ≥ 0) = !(s.all okFlow)) ?_ ?_
  · obtain ⟨r, hr, e⟩ := H
    rw [← e]
    exact Ev.bind hr (Ev.now _)
  · refine ⟨-1, Ev.step (fun k => by rw [slices_IndexFunc_at_impl_AreFlowJobs_1.l0]) ?_, by simp⟩
    simp only [if_neg (nlt_self l)]
    exact Ev.now _
  · rintro p x s he ⟨r, ih, e⟩
    by_cases hx : okFlow x = true
    · refine ⟨r, Ev.step (fun k => by rw [slices_IndexFunc_at_impl_AreFlowJobs_1.l0]) ?_, by rw [e]; simp [hx]⟩
      simp only [if_pos (mid_lt he), if_pos (nat_nn p.length), rd_T62, mid_get he, impl_AreFlowJobs_1_ok, hx, Option.bind_some, mid_next he (by omega)]
      exact ih
    · refine ⟨(p.length : Int), Ev.step (fun k => by rw [slices_IndexFunc_at_impl_AreFlowJobs_1.l0]) ?_, by simp [hx]⟩
      simp only [if_pos (mid_lt he), if_pos (nat_nn p.length), rd_T62, mid_get he, impl_AreFlowJobs_1_ok, Bool.eq_false_iff.2 hx, Option.bind_some]
      exact Ev.now _
theorem impl_AreFlowJobs (l : List S62) (h : l.length ≤ 1048576) : Ev (fun k => impl_AreFlowJobs.f k l) (l.all okFlow && decide (l.length ≤ 7)) := by
  simp only [impl_AreFlowJobs.f]
  by_cases hl : (l.length : Int) ≤ 7
  · simp only [if_pos hl]
    exact ev_eq (Ev.bind (contains_impl_AreFlowJobs_1 l h) (Ev.now _)) (by simp [show l.length ≤ 7 by omega])
  · simp only [if_neg hl]
    exact ev_eq (Ev.now _) (by simp [show ¬ l.length ≤ 7 by omega])

/-- Each number is in the range, and none comes twice. -/
def ordF (n : Int) (seen : List Int) : List Int → Bool
  | [] => true
  | x :: s => inR x 0 (n - 1) && (!(decide (x ∈ seen)) && ordF n (seen ++ [x]) s)
def orderB (l : List Int) : Bool := ordF (l.length : Int) [] l && decide (l.length ≤ 64)
theorem spec_has (l : List Int) (y : Int) (h : l.length ≤ 9000000000000000000) : Ev (fun k => spec_l01Has.f k l y) (decide (y ∈ l)) := by
  refine loop_list l (fun p s => Ev (fun k => spec_l01Has.l0 k l y (p.length : Int)) (decide (y ∈ s))) ?_ ?_
  · refine Ev.step (fun k => by rw [spec_l01Has.l0]) ?_
    simp only [if_neg (nlt_self l)]
    exact ev_eq (Ev.now _) (by simp)
  · intro p x s he ih
    refine Ev.step (fun k => by rw [spec_l01Has.l0]) ?_
    have hx : rd l (p.length : Int) = x := mid_get he 0
    simp only [if_pos (mid_lt he), if_pos (nat_nn p.length), hx, mid_next he (by omega)]
    by_cases e : x = y
    · simp only [if_pos e]
      exact ev_eq (Ev.now _) (by simp [e])
    · simp only [if_neg e]
      exact ev_eq ih (by simp [show ¬ y = x from fun h => e h.symm])
theorem spec_IsOrder (l : List Int) (h : l.length ≤ 1048576) : Ev (fun k => spec_IsOrder.f k l) (orderB l) := by
  refine loop_list l (fun p s => Ev (fun k => spec_IsOrder.l0 k l (p.length : Int)) (ordF (l.length : Int) p s && decide (l.length ≤ 64))) ?_ ?_
  · refine Ev.step (fun k => by rw [spec_IsOrder.l0]) ?_
    simp only [if_neg (nlt_self l), ordF, Bool.true_and]
    exact ev_eq (Ev.now _) (decide_eq_decide.2 (by omega))
  · intro p x s he ih
    refine Ev.step (fun k => by rw [spec_IsOrder.l0]) ?_
    have hx : rd l (p.length : Int) = x := mid_get he 0
    have hp := mid_lt he
    have ht : l.take ((p.length : Int).toNat) = p := by rw [he, Int.toNat_natCast]; simp
    simp only [if_pos hp, if_pos (nat_nn p.length), hx, w64 (x := (l.length : Int) - 1) (by omega) (by omega), l01In, Option.bind_some, if_pos (show (p.length : Int) ≤ (l.length : Int) by omega), ht, mid_next he (by omega), ordF]
    cases inR x 0 ((l.length : Int) - 1)
    · simp only [Bool.false_eq_true, if_false, Bool.false_and]
      exact Ev.now _
    · simp only [if_true, Bool.true_and]
      refine Ev.bind (spec_has p x (by omega)) ?_
      cases decide (x ∈ p)
      · simp only [Bool.false_eq_true, if_false, Bool.not_false, Bool.true_and]
        exact ih
      · simp only [if_true, Bool.not_true, Bool.false_and]
        exact Ev.now _
theorem impl_IsOrder (l : List Int) (h : l.length ≤ 1048576) : Ev (fun k => impl_IsOrder.f k l) (orderB l) := by
  simp only [impl_IsOrder.f]
  by_cases hl : (l.length : Int) > 64
  · simp only [if_pos hl]
    exact ev_eq (Ev.now _) (by simp [orderB, show ¬ l.length ≤ 64 by omega])
  · simp only [if_neg hl, if_pos (nat_nn l.length), Int.toNat_natCast, if_pos (show l.length ≤ 281474976710656 by omega)]
    refine ev_eq (r := ordF (l.length : Int) [] l) ?_ (by simp [orderB, show l.length ≤ 64 by omega])
    refine loop_list l (fun p s => ∀ b : List Bool, b.length = l.length → (∀ v : Nat, v < l.length → b.getD v false = decide ((v : Int) ∈ p)) → Ev (fun k => impl_IsOrder.l0 k l b l (l.length : Int) (p.length : Int)) (ordF (l.length : Int) p s)) ?_ ?_ (List.replicate l.length false) (by simp) (by intro v hv; simp [List.getD_eq_getElem?_getD, List.getElem?_replicate, hv])
    · intro b hb hv
      refine Ev.step (fun k => by rw [impl_IsOrder.l0]) ?_
      simp only [if_neg (nlt_self l), ordF]
      exact Ev.now _
    · intro p x s he ih b hb hv
      refine Ev.step (fun k => by rw [impl_IsOrder.l0]) ?_
      have hx : rd l (p.length : Int) = x := mid_get he 0
      have hp := mid_lt he
      simp only [if_pos hp, if_pos (nat_nn p.length), hx, impl_length_int64.f, w64 (x := (l.length : Int) - 1) (by omega) (by omega), inRange, Option.bind_some, mid_next he (by omega), ordF]
      cases hr : inR x 0 ((l.length : Int) - 1)
      · simp only [Bool.false_eq_true, if_false, Bool.false_and]
        exact Ev.now _
      · obtain ⟨h0, h1⟩ := inR_iff.1 hr
        have hg : rdOf false b x = decide (x ∈ p) := by
          have := hv x.toNat (by omega)
          rw [show ((x.toNat : Nat) : Int) = x by omega] at this
          rw [← this]
          rfl
        simp only [if_true, Bool.true_and, if_pos h0, if_pos (show x < (b.length : Int) by omega), hg]
        cases hd : decide (x ∈ p)
        · simp only [Bool.false_eq_true, if_false, Bool.not_false, Bool.true_and]
          refine ih (b.set x.toNat true) (by simpa using hb) (fun v hv' => ?_)
          have := hv v hv'
          simp only [List.getD_eq_getElem?_getD, List.getElem?_set, hb] at this ⊢
          by_cases e : x.toNat = v
          · simp [e, hv', show (v : Int) = x by omega]
          · simp only [if_neg e, List.mem_append, List.mem_singleton, this]
            simp [show ¬ (v : Int) = x by omega]
        · simp only [if_true, Bool.not_true, Bool.false_and]
          exact Ev.now _
theorem ordF_mem {n : Int} : ∀ (s seen : List Int), ordF n seen s = true → ∀ x ∈ s, 0 ≤ x ∧ x < n := by
  intro s
  induction s with
  | nil => intro seen _ x hx; cases hx
  | cons y s ih =>
    intro seen h x hx
    simp only [ordF, Bool.and_eq_true, inR_iff] at h
    rcases List.mem_cons.1 hx with rfl | hx
    · omega
    · exact ih _ h.2.2 x hx
theorem orderB_mem {l : List Int} (h : orderB l = true) {x : Int} (hx : x ∈ l) : 0 ≤ x ∧ x < (l.length : Int) := by
  simp only [orderB, Bool.and_eq_true] at h
  exact ordF_mem _ _ h.1 x hx
def flowB (l : List S62) : Bool := l.all okFlow && decide (l.length ≤ 7)
def flowCode (l : List S62) (o : List Int) : Int := if flowB l = true then (if orderB o = true then (if (o.length : Int) = (l.length : Int) then 0 else 2) else 2) else 1
theorem spec_flowCode (l : List S62) (o : List Int) (h : l.length ≤ 1048576) (ho : o.length ≤ 1048576) : Ev (fun k => spec_l21Code.f k l o) (flowCode l o) := by
  simp only [spec_l21Code.f]
  refine Ev.bind (a := flowB l) (spec_AreFlowJobs l h) ?_
  cases h1 : flowB l
  · simp only [Bool.false_eq_true, if_false]
    exact ev_eq (Ev.now _) (by simp [flowCode, h1])
  · simp only [if_true]
    refine Ev.bind (spec_IsOrder o ho) ?_
    cases h2 : orderB o <;> simp only [Bool.false_eq_true, if_false, if_true]
    · exact ev_eq (Ev.now _) (by simp [flowCode, h1, h2])
    · by_cases h3 : (o.length : Int) = (l.length : Int)
      · simp only [if_pos h3]
        exact ev_eq (Ev.now _) (by simp only [flowCode, h1, h2, if_true, if_pos h3])
      · simp only [if_neg h3]
        exact ev_eq (Ev.now _) (by simp only [flowCode, h1, h2, if_true, if_neg h3])
theorem impl_flowCode (l : List S62) (o : List Int) (h : l.length ≤ 1048576) (ho : o.length ≤ 1048576) : Ev (fun k => impl_checkFlow.f k l o) (flowCode l o) := by
  simp only [impl_checkFlow.f]
  refine Ev.bind (a := flowB l) (impl_AreFlowJobs l h) ?_
  cases h1 : flowB l
  · simp only [Bool.false_eq_true, if_false]
    exact ev_eq (Ev.now _) (by simp [flowCode, h1])
  · simp only [if_true]
    refine Ev.bind (impl_IsOrder o ho) ?_
    cases h2 : orderB o <;> simp only [Bool.false_eq_true, if_false, if_true]
    · exact ev_eq (Ev.now _) (by simp [flowCode, h1, h2])
    · by_cases h3 : (o.length : Int) = (l.length : Int)
      · simp only [if_pos h3]
        exact ev_eq (Ev.now _) (by simp only [flowCode, h1, h2, if_true, if_pos h3])
      · simp only [if_neg h3]
        exact ev_eq (Ev.now _) (by simp only [flowCode, h1, h2, if_true, if_neg h3])
theorem flowCode_zero {l : List S62} {o : List Int} (h : flowCode l o = 0) : flowB l = true ∧ orderB o = true ∧ o.length = l.length ∧ l.length ≤ 7 := by
  unfold flowCode at h
  by_cases h1 : flowB l = true <;> by_cases h2 : orderB o = true <;> by_cases h3 : (o.length : Int) = (l.length : Int) <;> simp [h1, h2, h3] at h
  refine ⟨h1, h2, by omega, ?_⟩
  simp only [flowB, Bool.and_eq_true, decide_eq_true_eq] at h1
  exact h1.2
theorem both_flowCode {α : Type} (l : List S62) (o : List Int) (h : l.length ≤ 1048576) (ho : o.length ≤ 1048576) (g g' : Nat → Option α) (e : Int → α) (hg : flowCode l o = 0 → ∃ r, Ev g r ∧ Ev g' r) :
    ∃ r, Ev (fun k => (spec_l21Code.f k l o).bind fun c => if c = 0 then g k else some (e c)) r ∧ Ev (fun k => (impl_checkFlow.f k l o).bind fun c => if c = 0 then g' k else some (e c)) r := by
  by_cases hc : flowCode l o = 0
  · obtain ⟨r, h1, h2⟩ := hg hc
    refine ⟨r, Ev.bind (spec_flowCode l o h ho) ?_, Ev.bind (impl_flowCode l o h ho) ?_⟩ <;> simp only [if_pos hc]
    · exact h1
    · exact h2
  · refine ⟨e (flowCode l o), Ev.bind (spec_flowCode l o h ho) ?_, Ev.bind (impl_flowCode l o h ho) ?_⟩ <;> simp only [if_neg hc] <;> exact Ev.now _
def sumI (f : Int → Int) : List Int → Int
  | [] => 0
  | x :: s => f x + sumI f s
def sumN (f : Int → Int) : Nat → Int
  | 0 => 0
  | n + 1 => sumN f n + f (n : Int)
theorem sumI_perm (f : Int → Int) {a b : List Int} (h : a.Perm b) : sumI f a = sumI f b := by
  induction h with
  | nil => rfl
  | cons x _ ih => simp only [sumI, ih]
  | swap x y l => simp only [sumI]; omega
  | trans _ _ h1 h2 => rw [h1, h2]
theorem sumI_snoc (f : Int → Int) (a : List Int) (x : Int) : sumI f (a ++ [x]) = sumI f a + f x := by
  induction a with
  | nil => simp [sumI]
  | cons y a ih => simp only [List.cons_append, sumI, ih]; omega
theorem ordF_nodup {n : Int} : ∀ (s seen : List Int), ordF n seen s = true → s.Nodup ∧ ∀ x ∈ s, x ∉ seen := by
  intro s
  induction s with
  | nil => intro seen _; exact ⟨List.nodup_nil, fun x hx => by cases hx⟩
  | cons y s ih =>
    intro seen h
    simp only [ordF, Bool.and_eq_true, Bool.not_eq_true', decide_eq_false_iff_not] at h
    obtain ⟨h1, h2⟩ := ih _ h.2.2
    refine ⟨List.nodup_cons.2 ⟨fun hy => h2 y hy (by simp), h1⟩, fun x hx => ?_⟩
    rcases List.mem_cons.1 hx with rfl | hx
    · exact h.2.1
    · intro hs; exact h2 x hx (by simp [hs])
theorem orderB_nodup {l : List Int} (h : orderB l = true) : l.Nodup := by
  simp only [orderB, Bool.and_eq_true] at h
  exact (ordF_nodup _ _ h.1).1
theorem nodup_short : ∀ (n : Nat) (o : List Int), o.Nodup → (∀ x ∈ o, 0 ≤ x ∧ x < (n : Int)) → o.length ≤ n := by
  intro n
  induction n with
  | zero =>
    intro o _ h
    cases o with
    | nil => simp
    | cons x o => have := h x (by simp); omega
  | succ n ih =>
    intro o hn h
    have h1 := ih (o.erase (n : Int)) (hn.erase _) (fun x hx => by
      have h1 := h x (List.mem_of_mem_erase hx)
      have h2 : x ≠ (n : Int) := fun e => by subst e; exact hn.not_mem_erase hx
      omega)
    have h2 := List.length_erase (a := (n : Int)) (l := o)
    split at h2 <;> omega
theorem sum_order : ∀ (n : Nat) (o : List Int) (f : Int → Int), o.Nodup → (∀ x ∈ o, 0 ≤ x ∧ x < (n : Int)) → o.length = n → sumI f o = sumN f n := by
  intro n
  induction n with
  | zero =>
    intro o f _ _ hl
    rw [List.eq_nil_of_length_eq_zero hl]
    rfl
  | succ n ih =>
    intro o f hn h hl
    have hm : (n : Int) ∈ o := by
      apply Decidable.byContradiction
      intro hm
      have := nodup_short n o hn (fun x hx => by
        have h1 := h x hx
        have h2 : x ≠ (n : Int) := fun e => by subst e; exact hm hx
        omega)
      omega
    rw [sumI_perm f (List.perm_cons_erase hm)]
    have := ih (o.erase (n : Int)) f (hn.erase _) (fun x hx => by
      have h1 := h x (List.mem_of_mem_erase hx)
      have h2 : x ≠ (n : Int) := fun e => by subst e; exact hn.not_mem_erase hx
      omega) (by rw [List.length_erase_of_mem hm]; omega)
    simp only [sumI, sumN, this]
    omega
theorem mxe (a b : Int) : mx a b = if a < b then b else a := rfl
/-- The time at which the second machine stops. -/
def endI (F G : Int → Int) : Int → Int → List Int → Int
  | _, b, [] => b
  | a, b, x :: t => endI F G (a + F x) (mx (a + F x) b + G x) t
def pathI (F G : Int → Int) : List Int → Int
  | [] => 0
  | x :: t => F x + mx (G x + sumI G t) (pathI F G t)
theorem endI_app (F G : Int → Int) : ∀ (q t : List Int) (a b : Int), endI F G a b (q ++ t) = endI F G (a + sumI F q) (endI F G a b q) t := by
  intro q
  induction q with
  | nil => intro t a b; simp [endI, sumI]
  | cons x q ih =>
    intro t a b
    simp only [List.cons_append, endI, sumI, ih]
    rw [show a + F x + sumI F q = a + (F x + sumI F q) by omega]
theorem endI_ge (F G : Int → Int) : ∀ (t : List Int) (a b : Int), (∀ x ∈ t, 0 ≤ F x ∧ 0 ≤ G x) → b ≤ endI F G a b t := by
  intro t
  induction t with
  | nil => intro a b _; exact Int.le_refl _
  | cons x t ih =>
    intro a b h
    have h0 := h x (by simp)
    have := ih (a + F x) (mx (a + F x) b + G x) (fun y hy => h y (by simp [hy]))
    have e := mxe (a + F x) b
    simp only [endI]
    split at e <;> omega
theorem endI_le (F G : Int → Int) (N : Int) : ∀ (t : List Int) (a b M : Int), (∀ x ∈ t, 0 ≤ F x ∧ F x ≤ N ∧ 0 ≤ G x ∧ G x ≤ N) → a ≤ M → b ≤ M → endI F G a b t ≤ M + 2 * N * (t.length : Int) := by
  intro t
  induction t with
  | nil => intro a b M _ _ h; simp only [endI, List.length_nil]; omega
  | cons x t ih =>
    intro a b M h ha hb
    have h0 := h x (by simp)
    have e := mxe (a + F x) b
    have := ih (a + F x) (mx (a + F x) b + G x) (M + 2 * N) (fun y hy => h y (by simp [hy])) (by omega) (by split at e <;> omega)
    simp only [endI, List.length_cons]
    rw [show ((t.length + 1 : Nat) : Int) = (t.length : Int) + 1 by omega, Int.mul_add, Int.mul_one]
    omega
theorem sumI_range (F : Int → Int) (N : Int) : ∀ (t : List Int), (∀ x ∈ t, 0 ≤ F x ∧ F x ≤ N) → 0 ≤ sumI F t ∧ sumI F t ≤ N * (t.length : Int) := by
  intro t
  induction t with
  | nil => intro _; simp [sumI]
  | cons x t ih =>
    intro h
    have h0 := h x (by simp)
    have := ih (fun y hy => h y (by simp [hy]))
    simp only [sumI, List.length_cons]
    rw [show ((t.length + 1 : Nat) : Int) = (t.length : Int) + 1 by omega, Int.mul_add, Int.mul_one]
    omega
theorem endI_path (F G : Int → Int) : ∀ (t : List Int) (a b : Int), (∀ x ∈ t, 0 ≤ F x ∧ 0 ≤ G x) → a ≤ b → endI F G a b t = mx (b + sumI G t) (a + pathI F G t) := by
  intro t
  induction t with
  | nil => intro a b _ h; simp only [endI, sumI, pathI, mxe]; split <;> omega
  | cons x t ih =>
    intro a b h hab
    have h0 := h x (by simp)
    have e := mxe (a + F x) b
    have e2 := mxe (G x + sumI G t) (pathI F G t)
    simp only [endI, sumI, pathI]
    rw [ih _ _ (fun y hy => h y (by simp [hy])) (by split at e <;> omega), mxe, mxe (b + (G x + sumI G t))]
    split at e <;> split at e2 <;> split <;> split <;> omega
theorem path_ge (F G : Int → Int) : ∀ (t : List Int), (∀ x ∈ t, 0 ≤ F x ∧ 0 ≤ G x) → sumI F t ≤ pathI F G t ∧ sumI G t ≤ pathI F G t := by
  intro t
  induction t with
  | nil => intro _; exact ⟨Int.le_refl _, Int.le_refl _⟩
  | cons x t ih =>
    intro h
    have h0 := h x (by simp)
    obtain ⟨h1, h2⟩ := ih (fun y hy => h y (by simp [hy]))
    have e2 := mxe (G x + sumI G t) (pathI F G t)
    simp only [sumI, pathI]
    split at e2 <;> omega
theorem path_snoc (F G : Int → Int) (x : Int) (h0 : 0 ≤ F x ∧ 0 ≤ G x) : ∀ (t : List Int), pathI F G (t ++ [x]) = mx (pathI F G t + G x) (sumI F t + F x + G x) := by
  intro t
  induction t with
  | nil => simp only [List.nil_append, pathI, sumI, mxe]; split <;> split <;> omega
  | cons y t ih =>
    simp only [List.cons_append, pathI, sumI, ih, sumI_snoc]
    simp only [mxe]
    split <;> split <;> split <;> (try split) <;> omega
theorem path_turn (F G : Int → Int) : ∀ (t : List Int), (∀ x ∈ t, 0 ≤ F x ∧ 0 ≤ G x) → pathI G F t.reverse = pathI F G t := by
  intro t
  induction t with
  | nil => intro _; rfl
  | cons x t ih =>
    intro h
    have h0 := h x (by simp)
    rw [List.reverse_cons, path_snoc G F x ⟨h0.2, h0.1⟩, ih (fun y hy => h y (by simp [hy])), sumI_perm G (List.reverse_perm t)]
    simp only [pathI, mxe]
    split <;> split <;> omega
theorem sumI_congr {F F' : Int → Int} : ∀ {t : List Int}, (∀ x ∈ t, F x = F' x) → sumI F t = sumI F' t := by
  intro t
  induction t with
  | nil => intro _; rfl
  | cons x t ih => intro h; simp only [sumI, h x (by simp), ih (fun y hy => h y (by simp [hy]))]
theorem endI_congr {F G F' G' : Int → Int} : ∀ {t : List Int} {a b : Int}, (∀ x ∈ t, F x = F' x ∧ G x = G' x) → endI F G a b t = endI F' G' a b t := by
  intro t
  induction t with
  | nil => intro a b _; rfl
  | cons x t ih =>
    intro a b h
    have h0 := h x (by simp)
    simp only [endI, h0.1, h0.2, ih (fun y hy => h y (by simp [hy]))]
/-- The turned flow ends when the flow does. -/
theorem endI_turn (F G : Int → Int) (t : List Int) (h : ∀ x ∈ t, 0 ≤ F x ∧ 0 ≤ G x) : endI G F 0 0 t.reverse = endI F G 0 0 t := by
  rw [endI_path G F t.reverse 0 0 (fun x hx => by have := h x (by simpa using hx); omega) (by omega), endI_path F G t 0 0 h (by omega), path_turn F G t h, sumI_perm F (List.reverse_perm t)]
  obtain ⟨h1, h2⟩ := path_ge F G t h
  simp only [mxe]
  split <;> split <;> omega
theorem endI_sum (F G : Int → Int) (t : List Int) (h : ∀ x ∈ t, 0 ≤ F x ∧ 0 ≤ G x) : sumI G t ≤ endI F G 0 0 t := by
  rw [endI_path F G t 0 0 h (by omega), mxe]
  split <;> omega
theorem ordF_of {n : Int} : ∀ (s seen : List Int), s.Nodup → (∀ x ∈ s, x ∉ seen) → (∀ x ∈ s, 0 ≤ x ∧ x < n) → ordF n seen s = true := by
  intro s
  induction s with
  | nil => intro seen _ _ _; rfl
  | cons y s ih =>
    intro seen hn hs hr
    obtain ⟨h1, h2⟩ := List.nodup_cons.1 hn
    have h3 := hr y (by simp)
    simp only [ordF, Bool.and_eq_true, Bool.not_eq_true', decide_eq_false_iff_not, inR_iff]
    refine ⟨by omega, hs y (by simp), ih _ h2 (fun x hx => ?_) (fun x hx => hr x (by simp [hx]))⟩
    intro hm
    rcases List.mem_append.1 hm with hm | hm
    · exact hs x (by simp [hx]) hm
    · have : x = y := by simpa using hm
      subst this; exact h1 hx
theorem orderB_rev {o : List Int} (h : orderB o = true) : orderB o.reverse = true := by
  have hn := orderB_nodup h
  have hm := fun x hx => orderB_mem h (x := x) hx
  simp only [orderB, Bool.and_eq_true, decide_eq_true_eq] at h ⊢
  refine ⟨ordF_of _ _ ?_ (fun x hx => by simp) (fun x hx => ?_), by simpa using h.2⟩
  · exact (List.reverse_perm o).nodup_iff.2 hn
  · have := hm x (by simpa using hx)
    simpa using this
theorem clone_ints (l : List Int) (h : l.length ≤ 1048576) : slices_Clone__int64_int64.f l = some l := by
  simp only [slices_Clone__int64_int64.f, Option.bind_some, List.length_nil, List.nil_append, if_pos (show 0 + l.length < 17592186044416 by omega)]
theorem rev_at (a m b : List Int) (x y : Int) : rd (a ++ x :: (m ++ y :: b)) ((a.length : Int) + (m.length : Int) + 1) = y := by
  have : (a ++ x :: (m ++ y :: b)) = (a ++ x :: m) ++ y :: b := by simp
  rw [this]
  have e : ((a.length : Int) + (m.length : Int) + 1) = ((a ++ x :: m).length : Int) := by simp; omega
  rw [e]
  exact get_mid _ _ _ 0
theorem rev_set (a m b : List Int) (x y : Int) : ((a ++ x :: (m ++ y :: b)).set ((a.length : Int)).toNat y).set (((a.length : Int) + (m.length : Int) + 1)).toNat x = (a ++ [y]) ++ (m ++ (x :: b)) := by
  rw [set_mid]
  have : (a ++ y :: (m ++ y :: b)) = (a ++ y :: m) ++ y :: b := by simp
  rw [this]
  have e : ((a.length : Int) + (m.length : Int) + 1) = ((a ++ y :: m).length : Int) := by simp; omega
  rw [e, set_mid]
  simp
theorem reverse_mid : ∀ (n : Nat) (m a b : List Int), m.length ≤ n → a.length = b.length → a.length + m.length + b.length ≤ 1048576 → Ev (fun k => slices_Reverse__int64_int64.l0 k (a ++ (m ++ b)) (a.length : Int) ((a.length : Int) + (m.length : Int) - 1)) (a ++ (m.reverse ++ b)) := by
  intro n
  induction n with
  | zero =>
    intro m a b hm hab hl
    have : m = [] := List.eq_nil_of_length_eq_zero (by omega)
    subst this
    refine Ev.step (fun k => by rw [slices_Reverse__int64_int64.l0]) ?_
    simp only [List.length_nil, if_neg (show ¬ ((a.length : Int) < (a.length : Int) + ((0 : Nat) : Int) - 1) by omega)]
    exact Ev.now _
  | succ n ih =>
    intro m a b hm hab hl
    rcases m with _ | ⟨x, m⟩
    · refine Ev.step (fun k => by rw [slices_Reverse__int64_int64.l0]) ?_
      simp only [List.length_nil, if_neg (show ¬ ((a.length : Int) < (a.length : Int) + ((0 : Nat) : Int) - 1) by omega)]
      exact Ev.now _
    · rcases nil_or_snoc m with rfl | ⟨m, y, rfl⟩
      · refine Ev.step (fun k => by rw [slices_Reverse__int64_int64.l0]) ?_
        simp only [List.length_singleton, if_neg (show ¬ ((a.length : Int) < (a.length : Int) + ((1 : Nat) : Int) - 1) by omega)]
        exact Ev.now _
      · simp only [List.length_cons, List.length_append, List.length_nil] at hm hl
        have := ih m (a ++ [y]) (x :: b) (by omega) (by simp; omega) (by simp; omega)
        refine Ev.step (fun k => by rw [slices_Reverse__int64_int64.l0]) ?_
        have e1 : (a.length : Int) + ((x :: (m ++ [y])).length : Int) - 1 = (a.length : Int) + (m.length : Int) + 1 := by simp; omega
        have e2 : a ++ (x :: (m ++ [y]) ++ b) = a ++ x :: (m ++ y :: b) := by simp
        have e3 : ((a ++ x :: (m ++ y :: b)).length : Int) = (a.length : Int) + (m.length : Int) + (b.length : Int) + 2 := by simp; omega
        have e4 : rd (a ++ x :: (m ++ y :: b)) (a.length : Int) = x := get_mid _ _ _ 0
        rw [e1, e2]
        simp only [e3, e4, rev_at, rev_set, if_pos (show (a.length : Int) < (a.length : Int) + (m.length : Int) + 1 by omega), if_pos (show (0 : Int) ≤ (a.length : Int) + (m.length : Int) + 1 by omega), if_pos (show (a.length : Int) + (m.length : Int) + 1 < (a.length : Int) + (m.length : Int) + (b.length : Int) + 2 by omega), if_pos (nat_nn a.length), if_pos (show (a.length : Int) < (a.length : Int) + (m.length : Int) + (b.length : Int) + 2 by omega), w64 (x := (a.length : Int) + 1) (by omega) (by omega), w64 (x := (a.length : Int) + (m.length : Int) + 1 - 1) (by omega) (by omega)]
        simp only [List.length_append, List.length_singleton] at this
        rw [show (((a.length + 1 : Nat) : Int) + (m.length : Int) - 1) = (a.length : Int) + (m.length : Int) + 1 - 1 by omega, show ((a.length + 1 : Nat) : Int) = (a.length : Int) + 1 by omega] at this
        refine ev_eq this ?_
        simp
theorem reverse_ints (l : List Int) (h : l.length ≤ 1048576) : Ev (fun k => slices_Reverse__int64_int64.f k l) l.reverse := by
  have := reverse_mid l.length l [] [] (Nat.le_refl _) rfl (by simpa using h)
  simp only [slices_Reverse__int64_int64.f, w64 (x := (l.length : Int) - 1) (by omega) (by omega)]
  simpa using this
def turnJ (x : S62) : S62 := ⟨x.f1, x.f0⟩
theorem spec_turn (l : List S62) (o : List Int) (hol : o.length = l.length) (h : l.length ≤ 1048576) : Ev (fun k => spec_TurnFlow.l0 k l o [] [] 0) (l.map turnJ, o.reverse, 0) := by
  have H := loop_list l (fun p s => ∀ (x8 : List S62) (q t : List Int), o = t ++ q → q.length = p.length → x8.length = p.length → Ev (fun k => spec_TurnFlow.l0 k l o x8 q.reverse (p.length : Int)) (x8 ++ s.map turnJ, o.reverse, 0)) ?_ ?_ [] [] o (by simp) rfl rfl
  · simpa using H
  · intro x8 q t ho hq h8
    refine Ev.step (fun k => by rw [spec_TurnFlow.l0]) ?_
    simp only [if_neg (nlt_self l), List.map_nil, List.append_nil]
    have : t = [] := List.eq_nil_of_length_eq_zero (by have := congrArg List.length ho; simp at this; omega)
    subst this
    simp only [List.nil_append] at ho
    rw [ho]
    exact Ev.now _
  · intro p x s he ih x8 q t ho hq h8
    have hp := mid_lt he
    have hlen := congrArg List.length ho
    simp only [List.length_append] at hlen
    rcases nil_or_snoc t with rfl | ⟨t, y, rfl⟩
    · simp at hlen; omega
    · simp only [List.length_append, List.length_singleton] at hlen
      have e1 : wrap64 (wrap64 ((o.length : Int) - 1) - (p.length : Int)) = (t.length : Int) := by
        rw [w64 (x := (o.length : Int) - 1) (by omega) (by omega), w64 (by omega) (by omega)]; omega
      have e2 : rd o (t.length : Int) = y := mid_get (p := t) (s := q) (by simp [ho]) 0
      have := ih (x8 ++ [turnJ x]) (y :: q) t (by simp [ho]) (by simp [hq]) (by simp [h8])
      refine Ev.step (fun k => by rw [spec_TurnFlow.l0]) ?_
      simp only [if_pos hp, if_pos (nat_nn p.length), if_pos (show x8.length < 8796093022208 by omega), e1, if_pos (nat_nn t.length), if_pos (show (t.length : Int) < (o.length : Int) by omega), if_pos (show q.reverse.length < 17592186044416 by simp; omega), e2, rd_T62, mid_get he, mid_next he (by omega)]
      simpa [turnJ] using this
theorem impl_turn (l : List S62) (o : List Int) (ho : o.length ≤ 1048576) (h : l.length ≤ 1048576) : Ev (fun k => impl_TurnFlow.l0 k [] o l (l.length : Int) 0) (l.map turnJ, o.reverse, 0) := by
  have H := loop_list l (fun p s => ∀ (x8 : List S62), x8.length = p.length → Ev (fun k => impl_TurnFlow.l0 k x8 o l (l.length : Int) (p.length : Int)) (x8 ++ s.map turnJ, o.reverse, 0)) ?_ ?_ [] rfl
  · simpa using H
  · intro x8 h8
    refine Ev.step (fun k => by rw [impl_TurnFlow.l0]) ?_
    simp only [if_neg (nlt_self l), List.map_nil, List.append_nil]
    exact Ev.bind (reverse_ints o ho) (Ev.now _)
  · intro p x s he ih x8 h8
    have hp := mid_lt he
    have := ih (x8 ++ [turnJ x]) (by simp [h8])
    refine Ev.step (fun k => by rw [impl_TurnFlow.l0]) ?_
    simp only [if_pos hp, if_pos (nat_nn p.length), if_pos (show x8.length < 8796093022208 by omega), rd_T62, mid_get he, mid_next he (by omega)]
    simpa [turnJ] using this
def turnB (l : List S62) (o : List Int) : List S62 × List Int × Int := if flowCode l o = 0 then (l.map turnJ, o.reverse, 0) else ([], [], flowCode l o)
theorem both_TurnFlow (l : List S62) (o : List Int) (h : l.length ≤ 1048576) (ho : o.length ≤ 1048576) : Ev (fun k => spec_TurnFlow.f k l o) (turnB l o) ∧ Ev (fun k => impl_TurnFlow.f k l o) (turnB l o) := by
  simp only [spec_TurnFlow.f, impl_TurnFlow.f, turnB]
  by_cases hc : flowCode l o = 0
  · obtain ⟨_, _, hol, _⟩ := flowCode_zero hc
    refine ⟨Ev.bind (spec_flowCode l o h ho) ?_, Ev.bind (impl_flowCode l o h ho) ?_⟩ <;> simp only [if_pos hc, clone_ints o ho, Option.bind_some]
    · exact spec_turn l o hol h
    · exact impl_turn l o ho h
  · refine ⟨Ev.bind (spec_flowCode l o h ho) ?_, Ev.bind (impl_flowCode l o h ho) ?_⟩ <;> simp only [if_neg hc] <;> exact Ev.now _
theorem turnB_length (l : List S62) (o : List Int) (h : l.length ≤ 1048576) (ho : o.length ≤ 1048576) : (turnB l o).1.length ≤ 1048576 ∧ (turnB l o).2.1.length ≤ 1048576 := by
  unfold turnB
  split <;> simp <;> omega
/-- A source that stands somewhere in its code. -/
def Src (c : List Int) (a s : Int) : Prop := (∀ x ∈ c, 0 ≤ x ∧ x ≤ 255) ∧ c.length ≤ 4096 ∧ 0 ≤ a ∧ a ≤ (c.length : Int) ∧ 0 ≤ s ∧ s < 2147483647
theorem rd_byte {c : List Int} (h : ∀ x ∈ c, 0 ≤ x ∧ x ≤ 255) (i : Int) : 0 ≤ rd c i ∧ rd c i ≤ 255 := by
  unfold rd
  rw [List.getD_eq_getElem?_getD]
  cases e : c[i.toNat]? with
  | none => simp
  | some v => exact h v (List.mem_of_getElem? e)
theorem tmod_range {x n : Int} (hx : 0 ≤ x) (hn : 1 < n) : 0 ≤ Int.tmod x n ∧ Int.tmod x n < n := by
  rw [Int.tmod_eq_emod_of_nonneg hx]
  exact ⟨Int.emod_nonneg _ (by omega), Int.emod_lt_of_pos _ (by omega)⟩
theorem seed_step {s : Int} (h0 : 0 ≤ s) (h1 : s < 2147483647) : 0 ≤ Int.tmod (wrap64 ((wrap64 (s * 48271)) + 61)) 2147483647 ∧ Int.tmod (wrap64 ((wrap64 (s * 48271)) + 61)) 2147483647 < 2147483647 := by
  rw [w64 (x := s * 48271) (by omega) (by omega), w64 (by omega) (by omega)]
  exact tmod_range (by omega) (by omega)
theorem draw_next {c : List Int} {a s : Int} (h : Src c a s) (n : Int) : ∃ v a' s', spec_l01Next.f c a s n = some (v, a', s') ∧ Src c a' s' ∧ (n ≤ 1 → v = 0) ∧ (1 < n → 0 ≤ v ∧ v < n) := by
  obtain ⟨hb, hl, ha, ha1, hs, hs1⟩ := h
  by_cases hn : n ≤ 1
  · exact ⟨0, a, s, by simp only [spec_l01Next.f, if_pos hn], ⟨hb, hl, ha, ha1, hs, hs1⟩, fun _ => rfl, fun h => by omega⟩
  · have hn0 : ¬ n = 0 := by omega
    obtain ⟨k0, k1⟩ := seed_step hs hs1
    generalize hk : Int.tmod (wrap64 ((wrap64 (s * 48271)) + 61)) 2147483647 = t at k0 k1
    have hx : Int.tdiv t 31 = t / 31 := Int.tdiv_eq_ediv_of_nonneg k0
    have hx1 : wrap64 (t / 31) = t / 31 := w64 (by omega) (by omega)
    by_cases hlt : a < (c.length : Int)
    · have e1 : wrap64 (a + 1) = a + 1 := w64 (by omega) (by omega)
      have e2 : wrap64 (a + 1 - 1) = a := by rw [show a + 1 - 1 = a by omega]; exact w64 (by omega) (by omega)
      obtain ⟨b0, b1⟩ := rd_byte hb a
      have e3 : wrap64 (rd c a) = rd c a := w64 (by omega) (by omega)
      have e4 : wrap64 (t / 31 + rd c a) = t / 31 + rd c a := w64 (by omega) (by omega)
      have hS : Src c (a + 1) t := ⟨hb, hl, by omega, by omega, k0, k1⟩
      by_cases h256 : n ≤ 256
      · by_cases he : Int.tmod (a + 1) 2 = 0
        · refine ⟨Int.tmod (rd c a) n, a + 1, t, ?_, hS, fun h => by omega, fun h => tmod_range b0 h⟩
          simp only [spec_l01Next.f, if_neg hn, if_pos hlt, if_pos ha, if_pos h256, e1, e2, e3, hk, if_pos he, if_neg hn0]
        · refine ⟨Int.tmod (t / 31 + rd c a) n, a + 1, t, ?_, hS, fun h => by omega, fun h => tmod_range (by omega) h⟩
          simp only [spec_l01Next.f, if_neg hn, if_pos hlt, if_pos ha, if_pos h256, e1, e2, e3, e4, hk, hx, hx1, if_neg he, if_neg hn0]
      · refine ⟨Int.tmod (t / 31 + rd c a) n, a + 1, t, ?_, hS, fun h => by omega, fun h => tmod_range (by omega) h⟩
        simp only [spec_l01Next.f, if_neg hn, if_pos hlt, if_pos ha, if_neg h256, e1, e3, e4, hk, hx, hx1, if_neg hn0]
    · refine ⟨Int.tmod (t / 31) n, a, t, ?_, ⟨hb, hl, ha, ha1, k0, k1⟩, fun h => by omega, fun h => tmod_range (by omega) h⟩
      simp only [spec_l01Next.f, if_neg hn, if_neg hlt, hk, hx, hx1, if_neg hn0]
theorem draw_pick {c : List Int} {a s : Int} (h : Src c a s) (l : List Int) (h0 : 0 < l.length) (h1 : l.length ≤ 1000) : ∃ v a' s', spec_l01Pick.f c a s l = some (v, a', s') ∧ Src c a' s' ∧ v ∈ l := by
  obtain ⟨v, a', s', e, hS, hv0, hv1⟩ := draw_next h (l.length : Int)
  have hv : 0 ≤ v ∧ v < (l.length : Int) := by
    by_cases hn : (l.length : Int) ≤ 1
    · have := hv0 hn; omega
    · exact hv1 (by omega)
  refine ⟨rd l v, a', s', by simp only [spec_l01Pick.f, e, Option.bind_some, if_pos hv.1, if_pos hv.2], hS, ?_⟩
  have : v.toNat < l.length := by omega
  unfold rd
  rw [List.getD_eq_getElem?_getD, List.getElem?_eq_getElem this]
  exact List.getElem_mem this
theorem draw_from (c : List Int) (hb : ∀ x ∈ c, (Lit.int .u8 x).wf = true) (hl : c.length ≤ 4096) : ∃ s, Ev (fun k => spec_l01From.f k c) (c, 0, s) ∧ Src c 0 s := by
  have hb' : ∀ x ∈ c, 0 ≤ x ∧ x ≤ 255 := by
    intro x hx
    have := hb x hx
    simp only [Lit.wf, IntKind.min, IntKind.max, IntKind.signed, IntKind.bits, Bool.and_eq_true, decide_eq_true_eq] at this
    simp at this
    omega
  have H := loop_list c (fun p t => ∀ s, 0 ≤ s → s < 2147483647 → ∃ s', Ev (fun k => spec_l01From.l0 k c (p.length : Int) c 0 s) (c, 0, s') ∧ 0 ≤ s' ∧ s' < 2147483647) ?_ ?_ 88007 (by omega) (by omega)
  · obtain ⟨s', h, h0, h1⟩ := H
    exact ⟨s', h, hb', hl, by omega, by omega, h0, h1⟩
  · intro s h0 h1
    refine ⟨s, Ev.step (fun k => by rw [spec_l01From.l0]) ?_, h0, h1⟩
    simp only [if_neg (nlt_self c)]
    exact Ev.now _
  · intro p x t he ih s h0 h1
    by_cases h64 : (p.length : Int) < 64
    · have hx : rd c (p.length : Int) = x := mid_get he 0
      obtain ⟨b0, b1⟩ := hb' x (by rw [he]; simp)
      have e : wrap64 (wrap64 (s * 71) + wrap64 x) = s * 71 + x := by rw [w64 (x := s * 71) (by omega) (by omega), w64 (x := x) (by omega) (by omega), w64 (by omega) (by omega)]
      obtain ⟨k0, k1⟩ := tmod_range (x := s * 71 + x) (n := 2147483647) (by omega) (by omega)
      obtain ⟨s', h, g0, g1⟩ := ih (Int.tmod (s * 71 + x) 2147483647) k0 k1
      refine ⟨s', Ev.step (fun k => by rw [spec_l01From.l0]) ?_, g0, g1⟩
      simp only [if_pos (mid_lt he), if_pos h64, if_pos (nat_nn p.length), hx, e, mid_next he (by omega)]
      exact h
    · refine ⟨s, Ev.step (fun k => by rw [spec_l01From.l0]) ?_, h0, h1⟩
      simp only [if_pos (mid_lt he), if_neg h64]
      exact Ev.now _
theorem draw_of {c : List Int} : ∀ (d : Nat) (n : Int) (l : List Int) (a s : Int), n - (l.length : Int) ≤ d → n ≤ 1000 → Src c a s → ∃ r a' s', Ev (fun k => spec_l01DrawOf.l0 k n l (l.length : Int) c a s) (r, a', s') ∧ Src c a' s' ∧ (r.length : Int) ≤ (if (l.length : Int) < n then n else (l.length : Int)) := by
  intro d
  induction d with
  | zero =>
    intro n l a s hd hn h
    refine ⟨l, a, s, Ev.step (fun k => by rw [spec_l01DrawOf.l0]) ?_, h, by rw [if_neg (by omega)]; omega⟩
    simp only [if_neg (show ¬ (l.length : Int) < n by omega)]
    exact Ev.now _
  | succ d ih =>
    intro n l a s hd hn h
    by_cases hlt : (l.length : Int) < n
    · obtain ⟨v, a1, s1, e1, h1, hv0, hv1⟩ := draw_next h (wrap64 ((l.length : Int) + 1))
      have ew : wrap64 ((l.length : Int) + 1) = (l.length : Int) + 1 := w64 (by omega) (by omega)
      rw [ew] at e1 hv0 hv1
      have hv : 0 ≤ v ∧ v ≤ (l.length : Int) := by
        by_cases h2 : (l.length : Int) + 1 ≤ 1
        · have := hv0 h2; omega
        · have := hv1 (by omega); omega
      obtain ⟨r, a', s', hr, h', hl'⟩ := ih n (l.take v.toNat ++ [(l.length : Int)] ++ l.drop v.toNat) a1 s1 (by simp; omega) hn h1
      have el : ((l.take v.toNat ++ [(l.length : Int)] ++ l.drop v.toNat).length : Int) = (l.length : Int) + 1 := by simp; omega
      rw [el] at hr hl'
      refine ⟨r, a', s', Ev.step (fun k => by rw [spec_l01DrawOf.l0]) ?_, h', by rw [if_pos hlt]; split at hl' <;> omega⟩
      have c1 : ([] : List Int).length + (l.take v.toNat).length < 17592186044416 := by simp; omega
      have c2 : (l.take v.toNat).length + ([(l.length : Int)] : List Int).length < 17592186044416 := by simp; omega
      have c3 : (l.take v.toNat ++ [(l.length : Int)]).length + (l.drop v.toNat).length < 17592186044416 := by simp; omega
      simp only [if_pos hlt, ew, e1, Option.bind_some, if_pos hv.1, if_pos hv.2, spec_l01Own.f, if_pos c1, List.nil_append, if_pos c2, if_pos c3]
      exact hr
    · refine ⟨l, a, s, Ev.step (fun k => by rw [spec_l01DrawOf.l0]) ?_, h, by rw [if_neg hlt]; omega⟩
      simp only [if_neg hlt]
      exact Ev.now _
theorem draw_perm {c : List Int} {a s : Int} (h : Src c a s) (n : Int) (hn : n ≤ 1000) : ∃ r a' s', Ev (fun k => spec_l01DrawOf.f k c a s n) (r, a', s') ∧ Src c a' s' ∧ r.length ≤ 1000 := by
  obtain ⟨r, a', s', hr, h', hl⟩ := draw_of (c := c) (n - 0).toNat n [] a s (by simp; omega) hn h
  refine ⟨r, a', s', hr, h', ?_⟩
  simp at hl
  split at hl <;> omega
theorem draw_order {c : List Int} {a s : Int} (h : Src c a s) : ∃ r a' s', Ev (fun k => spec_l01DrawOrder.f k c a s) (r, a', s') ∧ Src c a' s' ∧ r.length ≤ 1001 := by
  obtain ⟨v1, a1, s1, e1, h1, m1⟩ := draw_pick h [6, 9, 14] (by decide) (by decide)
  obtain ⟨v2, a2, s2, e2, h2, m2, m2'⟩ := draw_next h1 v1
  have hv1 : v1 = 6 ∨ v1 = 9 ∨ v1 = 14 := by simpa using m1
  have hv2 := m2' (by omega)
  obtain ⟨r, a3, s3, e3, h3, l3⟩ := draw_perm h2 v2 (by omega)
  obtain ⟨v4, a4, s4, e4, h4, _⟩ := draw_next h3 24
  simp only [spec_l01DrawOrder.f, e1, e2, Option.bind_some]
  by_cases g0 : v4 = 0
  · obtain ⟨v5, a5, s5, e5, h5, _⟩ := draw_pick h4 [-1, 0, (r.length : Int), wrap64 ((r.length : Int) + 1)] (by simp) (by simp)
    refine ⟨r ++ [v5], a5, s5, Ev.bind e3 ?_, h5, by simp; omega⟩
    simp only [e4, Option.bind_some, if_pos g0, e5, if_pos (show r.length < 17592186044416 by omega)]
    exact Ev.now _
  · by_cases g1 : v4 = 1
    · obtain ⟨v5, a5, s5, e5, h5, _, m5⟩ := draw_next h4 2
      have := m5 (by omega)
      obtain ⟨r', a6, s6, e6, h6, l6⟩ := draw_perm h5 (wrap64 (64 + v5)) (by rw [w64 (by omega) (by omega)]; omega)
      refine ⟨r', a6, s6, Ev.bind e3 ?_, h6, by omega⟩
      simp only [e4, Option.bind_some, if_neg g0, if_pos g1, e5]
      refine Ev.bind e6 ?_
      exact Ev.now _
    · refine ⟨r, a4, s4, Ev.bind e3 ?_, h4, by omega⟩
      simp only [e4, Option.bind_some, if_neg g0, if_neg g1]
      exact Ev.now _
theorem likeInts (l : List Int) (h : l.length ≤ 9000000000000000000) : Ev (fun k => laws_likeInts.f k l l) true := by
  simp only [laws_likeInts.f, if_true]
  refine loop_list l (fun p s => Ev (fun k => laws_likeInts.l0 k l l (p.length : Int)) true) ?_ ?_
  · refine Ev.step (fun k => by rw [laws_likeInts.l0]) ?_
    simp only [if_neg (nlt_self l)]
    exact Ev.now _
  · intro p x s he ih
    refine Ev.step (fun k => by rw [laws_likeInts.l0]) ?_
    simp only [if_pos (mid_lt he), if_pos (nat_nn p.length), if_true, mid_next he (by omega)]
    exact ih
def fF (l : List S62) (i : Int) : Int := (rd_T62 l i).f0
def fG (l : List S62) (i : Int) : Int := (rd_T62 l i).f1
theorem flow_ok {l : List S62} (h : flowB l = true) {i : Int} (h0 : 0 ≤ i) (h1 : i < (l.length : Int)) : 0 ≤ fF l i ∧ fF l i ≤ 100000 ∧ 0 ≤ fG l i ∧ fG l i ≤ 100000 := by
  simp only [flowB, Bool.and_eq_true, List.all_eq_true] at h
  have hm : rd_T62 l i ∈ l := by
    have : i.toNat < l.length := by omega
    unfold rd_T62
    rw [List.getD_eq_getElem?_getD, List.getElem?_eq_getElem this]
    exact List.getElem_mem this
  have := h.1 _ hm
  simp only [okFlow, Bool.and_eq_true, inR_iff] at this
  unfold fF fG
  omega
theorem rd_L2_set {d : List (List Int)} {i x : Int} {v : List Int} (hi : 0 ≤ i) (hx : 0 ≤ x) (hxl : x < (d.length : Int)) : rd_L2 (d.set x.toNat v) i = if i = x then v else rd_L2 d i := by
  unfold rd_L2
  simp only [List.getD_eq_getElem?_getD, List.getElem?_set]
  by_cases e : x.toNat = i.toNat
  · rw [if_pos e, if_pos (show i = x by omega), if_pos (show x.toNat < d.length by omega)]; simp
  · rw [if_neg e, if_neg (show ¬ i = x by omega)]
theorem snoc_split {α : Type} {p q t : List α} {x y : α} (h : p ++ [x] = q ++ y :: t) : (t = [] ∧ p = q ∧ x = y) ∨ ∃ t', t = t' ++ [x] ∧ p = q ++ y :: t' := by
  rcases nil_or_snoc t with rfl | ⟨t', z, rfl⟩
  · have := List.append_inj' h rfl
    exact Or.inl ⟨rfl, this.1, by simpa using this.2⟩
  · have h' : p ++ [x] = (q ++ y :: t') ++ [z] := by simpa using h
    have := List.append_inj' h' rfl
    have hz : x = z := by simpa using this.2
    subst hz
    exact Or.inr ⟨t', rfl, this.1⟩
theorem flow_told {l : List S62} {o : List Int} (hc : flowCode l o = 0) : ∃ r : List (List Int), Ev (fun k => spec_l21Starts.f k l o) (r, endI (fF l) (fG l) 0 0 o) ∧ Ev (fun k => impl_flow.f k l o) (r, endI (fF l) (fG l) 0 0 o) ∧ r.length = l.length ∧ (∀ y ∈ r, y.length ≤ 2) ∧
    ∀ q y t, o = q ++ y :: t → rd_L2 r y = [sumI (fF l) q, mx (sumI (fF l) q + fF l y) (endI (fF l) (fG l) 0 0 q)] := by
  obtain ⟨hf, hb, hol, hl7⟩ := flowCode_zero hc
  have hn := orderB_nodup hb
  have hm : ∀ x ∈ o, 0 ≤ x ∧ x < (l.length : Int) := fun x hx => by rw [← hol]; exact orderB_mem hb hx
  have hok : ∀ x ∈ o, 0 ≤ fF l x ∧ fF l x ≤ 100000 ∧ 0 ≤ fG l x ∧ fG l x ≤ 100000 := fun x hx => flow_ok hf (hm x hx).1 (hm x hx).2
  simp only [spec_l21Starts.f, impl_flow.f, if_pos (nat_nn l.length), Int.toNat_natCast, if_pos (show l.length ≤ 11728124029610 by omega)]
  refine loop_list o (fun p s => ∀ (x6 : List (List Int)), x6.length = l.length → (∀ y ∈ x6, y.length ≤ 2) → (∀ q y t, p = q ++ y :: t → rd_L2 x6 y = [sumI (fF l) q, mx (sumI (fF l) q + fF l y) (endI (fF l) (fG l) 0 0 q)]) → o = p ++ s →
    ∃ r : List (List Int), Ev (fun k => spec_l21Starts.l0 k l o x6 (sumI (fF l) p) (endI (fF l) (fG l) 0 0 p) (p.length : Int)) (r, endI (fF l) (fG l) 0 0 o) ∧ Ev (fun k => impl_flow.l0 k l x6 (sumI (fF l) p) (endI (fF l) (fG l) 0 0 p) o (o.length : Int) (p.length : Int)) (r, endI (fF l) (fG l) 0 0 o) ∧ r.length = l.length ∧ (∀ y ∈ r, y.length ≤ 2) ∧
    ∀ q y t, o = q ++ y :: t → rd_L2 r y = [sumI (fF l) q, mx (sumI (fF l) q + fF l y) (endI (fF l) (fG l) 0 0 q)]) ?_ ?_ (List.replicate l.length []) (by simp) (by intro y hy; have := List.eq_of_mem_replicate hy; subst this; simp) (by intro q y t h; simp at h) rfl
  · intro x6 h6 h2 hs _
    refine ⟨x6, Ev.step (fun k => by rw [spec_l21Starts.l0]) ?_, Ev.step (fun k => by rw [impl_flow.l0]) ?_, h6, h2, hs⟩ <;> simp only [if_neg (nlt_self o)] <;> exact Ev.now _
  · intro p x s he ih x6 h6 h2 hs ho
    have hx : rd o (p.length : Int) = x := mid_get he 0
    have hxr := hm x (by rw [he]; simp)
    have hp := mid_lt he
    have hpo : ∀ y ∈ p, y ∈ o := fun y hy => by rw [he]; simp [hy]
    obtain ⟨j0, j1, j2, j3⟩ := hok x (by rw [he]; simp)
    obtain ⟨a0, a1⟩ := sumI_range (fF l) 100000 p (fun y hy => by have := hok y (hpo y hy); omega)
    have b0 := endI_ge (fF l) (fG l) p 0 0 (fun y hy => by have := hok y (hpo y hy); omega)
    have b1 := endI_le (fF l) (fG l) 100000 p 0 0 0 (fun y hy => hok y (hpo y hy)) (by omega) (by omega)
    have e1 : wrap64 (sumI (fF l) p + (rd_T62 l x).f0) = sumI (fF l) p + fF l x := w64 (by show _ ≤ sumI (fF l) p + fF l x; omega) (by show sumI (fF l) p + fF l x ≤ _; omega)
    have em := mxe (sumI (fF l) p + fF l x) (endI (fF l) (fG l) 0 0 p)
    have e2 : wrap64 (mx (sumI (fF l) p + fF l x) (endI (fF l) (fG l) 0 0 p) + (rd_T62 l x).f1) = mx (sumI (fF l) p + fF l x) (endI (fF l) (fG l) 0 0 p) + fG l x := by
      apply w64
      · show _ ≤ mx (sumI (fF l) p + fF l x) (endI (fF l) (fG l) 0 0 p) + fG l x
        split at em <;> omega
      · show mx (sumI (fF l) p + fF l x) (endI (fF l) (fG l) 0 0 p) + fG l x ≤ _
        split at em <;> omega
    have s1 : sumI (fF l) (p ++ [x]) = sumI (fF l) p + fF l x := sumI_snoc _ _ _
    have s2 : endI (fF l) (fG l) 0 0 (p ++ [x]) = mx (sumI (fF l) p + fF l x) (endI (fF l) (fG l) 0 0 p) + fG l x := by
      rw [endI_app]; simp only [endI, Int.zero_add]
    obtain ⟨r, h1, h2', h3⟩ := ih (x6.set x.toNat [sumI (fF l) p, mx (sumI (fF l) p + fF l x) (endI (fF l) (fG l) 0 0 p)]) (by simpa using h6) (by
      intro y hy
      rcases List.mem_or_eq_of_mem_set hy with hy | rfl
      · exact h2 y hy
      · simp) (by
      intro q y t hq
      rcases snoc_split hq with ⟨_, rfl, rfl⟩ | ⟨t', rfl, hp'⟩
      · rw [rd_L2_set hxr.1 hxr.1 (by omega), if_pos rfl]
      · have hy : y ∈ o := hpo y (by rw [hp']; simp)
        have hne : y ≠ x := by
          intro e
          subst e
          rw [he] at hn
          have := (List.nodup_append.1 hn).2.2
          exact this y (by rw [hp']; simp) y (by simp) rfl
        rw [rd_L2_set (hm y hy).1 hxr.1 (by omega), if_neg hne]
        exact hs q y t' hp') (by rw [he]; simp)
    rw [s1, s2] at h1 h2'
    refine ⟨r, Ev.step (fun k => by rw [spec_l21Starts.l0]) ?_, Ev.step (fun k => by rw [impl_flow.l0]) ?_, h3⟩ <;> simp only [if_pos hp, if_pos (nat_nn p.length), hx, if_pos hxr.1, if_pos hxr.2, if_pos (show x < (x6.length : Int) by omega), mid_next he (by omega), e1, e2]
    · exact h1
    · exact h2'
theorem idle_told {l : List S62} (E : Int) (hf : flowB l = true) (h7 : l.length ≤ 7) (h0 : 0 ≤ E) (h1 : E ≤ 10000000) : Ev (fun k => spec_IdleTime.l0 k l E 0) (E - sumN (fG l) l.length, 0) ∧ ∃ z, Ev (fun k => impl_sums.f k l) (z, sumN (fG l) l.length) ∧ 0 ≤ sumN (fG l) l.length ∧ sumN (fG l) l.length ≤ 700000 := by
  have hN : ∀ n : Nat, n ≤ l.length → 0 ≤ sumN (fG l) n ∧ sumN (fG l) n ≤ 100000 * (n : Int) := by
    intro n
    induction n with
    | zero => intro _; simp [sumN]
    | succ n ih =>
      intro hn
      have := ih (by omega)
      obtain ⟨_, _, g0, g1⟩ := flow_ok hf (i := (n : Int)) (by omega) (by omega)
      simp only [sumN]
      omega
  have H := loop_list l (fun p s => Ev (fun k => spec_IdleTime.l0 k l (E - sumN (fG l) p.length) (p.length : Int)) (E - sumN (fG l) l.length, 0) ∧ ∀ x4, ∃ z, Ev (fun k => impl_sums.l0 k x4 (sumN (fG l) p.length) l (l.length : Int) (p.length : Int)) (z, sumN (fG l) l.length)) ?_ ?_
  · obtain ⟨H1, H2⟩ := H
    obtain ⟨z, hz⟩ := H2 0
    have := hN l.length (Nat.le_refl _)
    exact ⟨by simpa [sumN] using H1, z, by simpa [impl_sums.f, sumN] using hz, this.1, by omega⟩
  · refine ⟨Ev.step (fun k => by rw [spec_IdleTime.l0]) ?_, fun x4 => ⟨x4, Ev.step (fun k => by rw [impl_sums.l0]) ?_⟩⟩ <;> simp only [if_neg (nlt_self l)] <;> exact Ev.now _
  · intro p x s he ih
    obtain ⟨i1, i2⟩ := ih
    have hp := mid_lt he
    have n0 := hN p.length (by omega)
    have n1 := hN (p.length + 1) (by omega)
    have es : sumN (fG l) (p ++ [x]).length = sumN (fG l) p.length + fG l (p.length : Int) := by rw [show (p ++ [x]).length = p.length + 1 by simp]; rfl
    have hn1 : sumN (fG l) (p.length + 1) = sumN (fG l) p.length + fG l (p.length : Int) := rfl
    have eg : (rd_T62 l (p.length : Int)).f1 = fG l (p.length : Int) := rfl
    rw [es] at i1 i2
    refine ⟨Ev.step (fun k => by rw [spec_IdleTime.l0]) ?_, fun x4 => ?_⟩
    · simp only [if_pos hp, if_pos (nat_nn p.length), mid_next he (by omega), eg]
      rw [w64 (by omega) (by omega), show E - sumN (fG l) p.length - fG l (p.length : Int) = E - (sumN (fG l) p.length + fG l (p.length : Int)) by omega]
      exact i1
    · obtain ⟨z, hz⟩ := i2 (wrap64 (x4 + (rd_T62 l (p.length : Int)).f0))
      refine ⟨z, Ev.step (fun k => by rw [impl_sums.l0]) ?_⟩
      simp only [if_pos hp, if_pos (nat_nn p.length), mid_next he (by omega), eg]
      rw [w64 (x := sumN (fG l) p.length + fG l (p.length : Int)) (by omega) (by omega)]
      exact hz
theorem likeFlows (l : List S62) (h : l.length ≤ 1048576) : Ev (fun k => laws_likeFlows9.f k l l) true := by
  simp only [laws_likeFlows9.f, if_true]
  refine loop_list l (fun p s => Ev (fun k => laws_likeFlows9.l0 k l l (p.length : Int)) true) ?_ ?_
  · refine Ev.step (fun k => by rw [laws_likeFlows9.l0]) ?_
    simp only [if_neg (nlt_self l)]
    exact Ev.now _
  · intro p x s he ih
    refine Ev.step (fun k => by rw [laws_likeFlows9.l0]) ?_
    simp only [if_pos (mid_lt he), if_pos (nat_nn p.length), beq_self_eq_true, Bool.not_true, Bool.or_self, Bool.false_eq_true, if_false, mid_next he (by omega)]
    exact ih
theorem likeLists (l : List (List Int)) (h : l.length ≤ 1048576) (h2 : ∀ y ∈ l, y.length ≤ 2) : Ev (fun k => laws_likeLists9.f k l l) true := by
  simp only [laws_likeLists9.f, if_true]
  refine loop_list l (fun p s => Ev (fun k => laws_likeLists9.l0 k l l (p.length : Int)) true) ?_ ?_
  · refine Ev.step (fun k => by rw [laws_likeLists9.l0]) ?_
    simp only [if_neg (nlt_self l)]
    exact Ev.now _
  · intro p x s he ih
    refine Ev.step (fun k => by rw [laws_likeLists9.l0]) ?_
    have hx : rd_L2 l (p.length : Int) = x := by unfold rd_L2; exact mid_get he _
    simp only [if_pos (mid_lt he), if_pos (nat_nn p.length), hx]
    refine Ev.bind (likeInts x (by have := h2 x (by rw [he]; simp); omega)) ?_
    simp only [if_true, mid_next he (by omega)]
    exact ih
theorem draw_flow_l0 {c : List Int} : ∀ (d : Nat) (l : List S62) (n a s : Int), n ≤ d → l.length + d ≤ 6 → Src c a s → ∃ r a' s', Ev (fun k => spec_l21Draw.l0 k l n c a s) (r, a', s') ∧ Src c a' s' ∧ r.length ≤ 8 := by
  intro d
  induction d with
  | zero =>
    intro l n a s hn hl h
    obtain ⟨v1, a1, s1, e1, h1, _⟩ := draw_next h 40
    by_cases g0 : v1 = 0
    · obtain ⟨v2, a2, s2, e2, h2, _⟩ := draw_pick h1 [-1, 0, 100000, 100001] (by decide) (by decide)
      obtain ⟨v3, a3, s3, e3, h3, _⟩ := draw_pick h2 [0, 100000, -1] (by decide) (by decide)
      refine ⟨l ++ [⟨v2, v3⟩], a3, s3, Ev.step (fun k => by rw [spec_l21Draw.l0]) ?_, h3, by simp; omega⟩
      simp only [if_neg (show ¬ n > 0 by omega), e1, Option.bind_some, if_pos g0, e2, e3, if_pos (show l.length < 8796093022208 by omega)]
      exact Ev.now _
    · by_cases g1 : v1 = 1
      · refine ⟨List.replicate 8 z62, a1, s1, Ev.step (fun k => by rw [spec_l21Draw.l0]) ?_, h1, by simp⟩
        simp only [if_neg (show ¬ n > 0 by omega), e1, Option.bind_some, if_neg g0, if_pos g1]
        exact Ev.now _
      · refine ⟨l, a1, s1, Ev.step (fun k => by rw [spec_l21Draw.l0]) ?_, h1, by omega⟩
        simp only [if_neg (show ¬ n > 0 by omega), e1, Option.bind_some, if_neg g0, if_neg g1]
        exact Ev.now _
  | succ d ih =>
    intro l n a s hn hl h
    by_cases hp : n > 0
    · obtain ⟨v1, a1, s1, e1, h1, _⟩ := draw_next h 20
      obtain ⟨v2, a2, s2, e2, h2, _⟩ := draw_next h1 20
      obtain ⟨r, a', s', hr, h', hl'⟩ := ih (l ++ [⟨v1, v2⟩]) (wrap64 (n - 1)) a2 s2 (by rw [w64 (by omega) (by omega)]; omega) (by simp; omega) h2
      refine ⟨r, a', s', Ev.step (fun k => by rw [spec_l21Draw.l0]) ?_, h', hl'⟩
      simp only [if_pos hp, e1, e2, Option.bind_some, if_pos (show l.length < 8796093022208 by omega)]
      exact hr
    · exact ih l n a s (by omega) (by omega) h
theorem draw_flow {c : List Int} {a s : Int} (h : Src c a s) : ∃ l a' s', Ev (fun k => spec_l21Draw.f k c a s) (l, a', s') ∧ Src c a' s' ∧ l.length ≤ 8 := by
  obtain ⟨v1, a1, s1, e1, h1, m0, m1⟩ := draw_next h 7
  have := m1 (by omega)
  obtain ⟨l, a', s', hr, h', hl⟩ := draw_flow_l0 (c := c) 6 [] v1 a1 s1 (by omega) (by simp) h1
  refine ⟨l, a', s', ?_, h', hl⟩
  simp only [spec_l21Draw.f, e1, Option.bind_some]
  exact hr
theorem draw_turn (c : List Int) (hb : ∀ x ∈ c, (Lit.int .u8 x).wf = true) (hl : c.length ≤ 4096) : ∃ l o, Ev (fun k => spec_DrawTurnFlow.f k c) (l, o) ∧ l.length ≤ 8 ∧ o.length ≤ 1001 := by
  obtain ⟨s0, h0, hs0⟩ := draw_from c hb hl
  obtain ⟨l, a1, s1, h1, hs1, l1⟩ := draw_flow hs0
  obtain ⟨v2, a2, s2, e2, hs2, _⟩ := draw_next hs1 16
  simp only [spec_DrawTurnFlow.f, spec_l21DrawOrder.f]
  by_cases g : v2 = 0
  · obtain ⟨o, a3, s3, h3, hs3, l3⟩ := draw_order hs2
    refine ⟨l, o, Ev.bind h0 (Ev.bind (a := (l, o, a3, s3)) (Ev.bind h1 ?_) (Ev.now _)), l1, l3⟩
    simp only [e2, Option.bind_some, if_pos g]
    exact Ev.bind h3 (Ev.now _)
  · obtain ⟨o, a3, s3, h3, hs3, l3⟩ := draw_perm hs2 (l.length : Int) (by omega)
    refine ⟨l, o, Ev.bind h0 (Ev.bind (a := (l, o, a3, s3)) (Ev.bind h1 ?_) (Ev.now _)), l1, by omega⟩
    simp only [e2, Option.bind_some, if_neg g]
    exact Ev.bind h3 (Ev.now _)
theorem rd_turn {l : List S62} {i : Int} (h0 : 0 ≤ i) (h1 : i < (l.length : Int)) : fF (l.map turnJ) i = fG l i ∧ fG (l.map turnJ) i = fF l i := by
  have hi : i.toNat < l.length := by omega
  have e : rd_T62 (l.map turnJ) i = turnJ (rd_T62 l i) := by
    unfold rd_T62
    simp [List.getD_eq_getElem?_getD, hi]
  unfold fF fG
  rw [e]
  exact ⟨rfl, rfl⟩
theorem turn_code {l : List S62} {o : List Int} (hc : flowCode l o = 0) : flowCode (l.map turnJ) o.reverse = 0 := by
  obtain ⟨hf, hb, hol, hl7⟩ := flowCode_zero hc
  have h1 : flowB (l.map turnJ) = true := by
    simp only [flowB, Bool.and_eq_true, List.all_eq_true, decide_eq_true_eq] at hf ⊢
    refine ⟨fun x hx => ?_, by simpa using hf.2⟩
    obtain ⟨y, hy, rfl⟩ := List.mem_map.1 hx
    have := hf.1 y hy
    simp only [okFlow, Bool.and_eq_true, turnJ] at this ⊢
    exact ⟨this.2, this.1⟩
  unfold flowCode
  rw [if_pos h1, if_pos (orderB_rev hb), if_pos (by simp; omega)]
theorem impl_Makespan {l : List S62} {o : List Int} (hc : flowCode l o = 0) (h : l.length ≤ 1048576) (ho : o.length ≤ 1048576) : Ev (fun k => impl_Makespan.f k l o) (endI (fF l) (fG l) 0 0 o, 0) := by
  obtain ⟨r, _, h2, _⟩ := flow_told hc
  simp only [impl_Makespan.f]
  refine Ev.bind (ev_eq (impl_flowCode l o h ho) hc) ?_
  simp only [if_true]
  exact Ev.bind h2 (Ev.now _)
theorem turned_loop {l : List S62} {o : List Int} {r : List (List Int)} (hf : flowB l = true) (hol : o.length = l.length) (hl7 : l.length ≤ 7) (hm : ∀ x ∈ o, 0 ≤ x ∧ x < (l.length : Int)) (hrl : r.length = l.length)
    (hs : ∀ q y t, o = q ++ y :: t → rd_L2 r y = [sumI (fF l) q, mx (sumI (fF l) q + fF l y) (endI (fF l) (fG l) 0 0 q)]) : Ev (fun k => laws_FnTurnedFlow.l0 k l o r (endI (fF l) (fG l) 0 0 o) 0) true := by
  have hok : ∀ x ∈ o, 0 ≤ fF l x ∧ fF l x ≤ 100000 ∧ 0 ≤ fG l x ∧ fG l x ≤ 100000 := fun x hx => flow_ok hf (hm x hx).1 (hm x hx).2
  refine loop_list o (fun p s => Ev (fun k => laws_FnTurnedFlow.l0 k l o r (endI (fF l) (fG l) 0 0 o) (p.length : Int)) true) ?_ ?_
  · refine Ev.step (fun k => by rw [laws_FnTurnedFlow.l0]) ?_
    simp only [if_neg (nlt_self o)]
    exact Ev.now _
  · intro p x s he ih
    have hx : rd o (p.length : Int) = x := mid_get he 0
    have hp := mid_lt he
    have hxr := hm x (by rw [he]; simp)
    obtain ⟨j0, j1, j2, j3⟩ := hok x (by rw [he]; simp)
    have hpo : ∀ y ∈ p, y ∈ o := fun y hy => by rw [he]; simp [hy]
    obtain ⟨a0, a1⟩ := sumI_range (fF l) 100000 p (fun y hy => by have := hok y (hpo y hy); omega)
    have b0 := endI_ge (fF l) (fG l) p 0 0 (fun y hy => by have := hok y (hpo y hy); omega)
    have b1 := endI_le (fF l) (fG l) 100000 p 0 0 0 (fun y hy => hok y (hpo y hy)) (by omega) (by omega)
    have e := hs p x s he
    have em := mxe (sumI (fF l) p + fF l x) (endI (fF l) (fG l) 0 0 p)
    have hE : mx (sumI (fF l) p + fF l x) (endI (fF l) (fG l) 0 0 p) + fG l x ≤ endI (fF l) (fG l) 0 0 o := by
      have h1 := endI_ge (fF l) (fG l) s (sumI (fF l) p + fF l x) (mx (sumI (fF l) p + fF l x) (endI (fF l) (fG l) 0 0 p) + fG l x) (fun y hy => by have := hok y (by rw [he]; simp [hy]); omega)
      have h2 : endI (fF l) (fG l) 0 0 o = endI (fF l) (fG l) (sumI (fF l) p + fF l x) (mx (sumI (fF l) p + fF l x) (endI (fF l) (fG l) 0 0 p) + fG l x) s := by
        rw [he, endI_app]; simp only [endI, Int.zero_add]
      omega
    generalize hC : mx (sumI (fF l) p + fF l x) (endI (fF l) (fG l) 0 0 p) = C at e em hE
    have r0 : rd [sumI (fF l) p, C] 0 = sumI (fF l) p := rfl
    have r1 : rd [sumI (fF l) p, C] 1 = C := rfl
    have ef : (rd_T62 l x).f0 = fF l x := rfl
    have eg : (rd_T62 l x).f1 = fG l x := rfl
    have hC0 : sumI (fF l) p + fF l x ≤ C ∧ endI (fF l) (fG l) 0 0 p ≤ C ∧ C ≤ 100000000 := by split at em <;> omega
    have w1 : wrap64 (sumI (fF l) p + fF l x) = sumI (fF l) p + fF l x := w64 (by omega) (by omega)
    have w2 : wrap64 (C + fG l x) = C + fG l x := w64 (by omega) (by omega)
    have g1 : (1 : Int) < (([sumI (fF l) p, C] : List Int).length : Int) := by simp
    have g0 : (0 : Int) < (([sumI (fF l) p, C] : List Int).length : Int) := by simp
    refine Ev.step (fun k => by rw [laws_FnTurnedFlow.l0]) ?_
    simp only [if_pos hp, if_pos (nat_nn p.length), hx, if_pos hxr.1, if_pos (show x < (r.length : Int) by omega), e, if_pos g1, if_pos g0, if_pos hxr.2, r0, r1, ef, eg, w1, w2, if_neg (show ¬ C < sumI (fF l) p + fF l x by omega), decide_eq_false (show ¬ C + fG l x > endI (fF l) (fG l) 0 0 o by omega)]
    refine Ev.step (fun k => by rw [laws_FnTurnedFlow.j3]) ?_
    simp only [Bool.false_eq_true, if_false]
    rcases nil_or_snoc p with rfl | ⟨q, y, rfl⟩
    · simp only [if_neg (show ¬ ((([] : List Int).length : Int) > 0) by simp), mid_next he (by omega)]
      exact ih
    · have hpl : ((q ++ [y]).length : Int) = (q.length : Int) + 1 := by simp
      have ey : rd o (q.length : Int) = y := mid_get (p := q) (s := x :: s) (by rw [he]; simp) 0
      have eq_ := hs q y (x :: s) (by rw [he]; simp)
      have hyr := hm y (by rw [he]; simp)
      obtain ⟨k0, k1, k2, k3⟩ := hok y (by rw [he]; simp)
      have hqo : ∀ z ∈ q, z ∈ o := fun z hz => by rw [he]; simp [hz]
      obtain ⟨c0, c1⟩ := sumI_range (fF l) 100000 q (fun z hz => by have := hok z (hqo z hz); omega)
      have d0 := endI_ge (fF l) (fG l) q 0 0 (fun z hz => by have := hok z (hqo z hz); omega)
      have d1 := endI_le (fF l) (fG l) 100000 q 0 0 0 (fun z hz => hok z (hqo z hz)) (by omega) (by omega)
      have s1 : sumI (fF l) (q ++ [y]) = sumI (fF l) q + fF l y := sumI_snoc _ _ _
      have s2 : endI (fF l) (fG l) 0 0 (q ++ [y]) = mx (sumI (fF l) q + fF l y) (endI (fF l) (fG l) 0 0 q) + fG l y := by
        rw [endI_app]; simp only [endI, Int.zero_add]
      have em2 := mxe (sumI (fF l) q + fF l y) (endI (fF l) (fG l) 0 0 q)
      generalize hD : mx (sumI (fF l) q + fF l y) (endI (fF l) (fG l) 0 0 q) = D at eq_ s2 em2
      have hD0 : 0 ≤ D ∧ D ≤ 100000000 := by split at em2 <;> omega
      have q0 : rd [sumI (fF l) q, D] 0 = sumI (fF l) q := rfl
      have q1 : rd [sumI (fF l) q, D] 1 = D := rfl
      have ef' : (rd_T62 l y).f0 = fF l y := rfl
      have eg' : (rd_T62 l y).f1 = fG l y := rfl
      have w3 : wrap64 (sumI (fF l) q + fF l y) = sumI (fF l) q + fF l y := w64 (by omega) (by omega)
      have w4 : wrap64 (D + fG l y) = D + fG l y := w64 (by omega) (by omega)
      have w5 : wrap64 ((q.length : Int) + 1 - 1) = (q.length : Int) := by rw [show (q.length : Int) + 1 - 1 = (q.length : Int) by omega]; exact w64 (by omega) (by omega)
      have t1 : (1 : Int) < (([sumI (fF l) q, D] : List Int).length : Int) := by simp
      have t0 : (0 : Int) < (([sumI (fF l) q, D] : List Int).length : Int) := by simp
      have hnx := mid_next he (by omega)
      rw [hpl] at hnx hp
      simp only [hpl, if_pos (show (q.length : Int) + 1 > 0 by omega), if_pos hxr.1, if_pos (show x < (r.length : Int) by omega), e, if_pos g0, if_pos g1, w5, if_pos (nat_nn q.length), if_pos (show (q.length : Int) < (o.length : Int) by omega), ey, if_pos hyr.1, if_pos (show y < (r.length : Int) by omega), eq_, if_pos t0, if_pos t1, if_pos hyr.2, r0, r1, q0, q1, ef', eg', w3, w4, if_neg (show ¬ sumI (fF l) (q ++ [y]) < sumI (fF l) q + fF l y by omega), if_neg (show ¬ C < D + fG l y by omega), hnx]
      exact ih
theorem FnTurnedFlow : laws_FnTurnedFlow.Pure := by
  intro c hl hb
  refine Ev.rounds (g := fun k => laws_FnTurnedFlow.f k c) ?_
  simp only [laws_FnTurnedFlow.f, laws_big.f, Option.bind_some]
  by_cases hbig : (c.length : Int) > 4096
  · simp only [decide_eq_true hbig, if_true]
    exact Ev.now _
  simp only [decide_eq_false hbig, Bool.false_eq_true, if_false]
  obtain ⟨l, o, hdr, hl8, ho8⟩ := draw_turn c hb (by omega)
  have hlm : l.length ≤ 1048576 := by omega
  have hom : o.length ≤ 1048576 := by omega
  obtain ⟨t1, t2⟩ := both_TurnFlow l o hlm hom
  refine Ev.bind hdr ?_
  by_cases hc : flowCode l o = 0
  · obtain ⟨hf, hbo, hol, hl7⟩ := flowCode_zero hc
    have hm : ∀ x ∈ o, 0 ≤ x ∧ x < (l.length : Int) := fun x hx => by rw [← hol]; exact orderB_mem hbo hx
    have hok : ∀ x ∈ o, 0 ≤ fF l x ∧ fF l x ≤ 100000 ∧ 0 ≤ fG l x ∧ fG l x ≤ 100000 := fun x hx => flow_ok hf (hm x hx).1 (hm x hx).2
    obtain ⟨r, f1, f2, hrl, hr2, hs⟩ := flow_told hc
    have cs : Ev (fun k => spec_l21Code.f k l o) 0 := ev_eq (spec_flowCode l o hlm hom) hc
    have ci : Ev (fun k => impl_checkFlow.f k l o) 0 := ev_eq (impl_flowCode l o hlm hom) hc
    have hE0 := endI_ge (fF l) (fG l) o 0 0 (fun x hx => by have := hok x hx; omega)
    have hE1 := endI_le (fF l) (fG l) 100000 o 0 0 0 hok (by omega) (by omega)
    have hEs := endI_sum (fF l) (fG l) o (fun x hx => by have := hok x hx; omega)
    rw [sum_order l.length o (fG l) (orderB_nodup hbo) hm hol] at hEs
    obtain ⟨i1, z, i2, n0, n1⟩ := idle_told (endI (fF l) (fG l) 0 0 o) hf hl7 hE0 (by omega)
    have et : turnB l o = (l.map turnJ, o.reverse, 0) := by unfold turnB; rw [if_pos hc]
    rw [et] at t1 t2
    refine Ev.bind t2 ?_
    refine Ev.bind t1 ?_
    refine Ev.bind (a := (r, 0)) (by simp only [impl_FlowStarts.f]; exact Ev.bind ci (by simp only [if_true]; exact Ev.bind f2 (Ev.now _))) ?_
    refine Ev.bind (a := (r, 0)) (by simp only [spec_FlowStarts.f]; exact Ev.bind cs (by simp only [if_true]; exact Ev.bind f1 (Ev.now _))) ?_
    refine Ev.bind (a := (endI (fF l) (fG l) 0 0 o - sumN (fG l) l.length, 0)) (by
      simp only [impl_IdleTime.f]
      refine Ev.bind ci ?_
      simp only [if_true]
      refine Ev.bind f2 ?_
      refine Ev.bind i2 ?_
      simp only []
      rw [w64 (by omega) (by omega)]
      exact Ev.now _) ?_
    refine Ev.bind (a := (endI (fF l) (fG l) 0 0 o - sumN (fG l) l.length, 0)) (by
      simp only [spec_IdleTime.f]
      refine Ev.bind cs ?_
      simp only [if_true]
      exact Ev.bind f1 i1) ?_
    simp only [if_true]
    refine Ev.bind (likeFlows _ (by simpa using hlm)) ?_
    simp only [if_true]
    refine Ev.bind (likeInts o.reverse (by simp; omega)) ?_
    simp only [if_true]
    refine Ev.bind (likeLists r (by omega) hr2) ?_
    simp only [if_true, bne_self_eq_false]
    refine Ev.step (fun k => by rw [laws_FnTurnedFlow.j0]) ?_
    simp only [Bool.false_eq_true, if_false, if_true]
    refine Ev.bind (impl_Makespan hc hlm hom) ?_
    refine Ev.bind (impl_Makespan (turn_code hc) (by simpa using hlm) (by simpa using hom)) ?_
    have ee : endI (fF (l.map turnJ)) (fG (l.map turnJ)) 0 0 o.reverse = endI (fF l) (fG l) 0 0 o := by
      rw [endI_congr (F' := fG l) (G' := fF l) (fun x hx => by
        have := hm x (by simpa using hx)
        exact rd_turn this.1 this.2)]
      exact endI_turn (fF l) (fG l) o (fun x hx => by have := hok x hx; omega)
    simp only [if_true, ee, decide_eq_false (show ¬ endI (fF l) (fG l) 0 0 o - sumN (fG l) l.length < 0 by omega)]
    refine Ev.step (fun k => by rw [laws_FnTurnedFlow.j1]) ?_
    simp only [Bool.false_eq_true, if_false]
    exact turned_loop hf hol hl7 hm hrl hs
  · have cs := spec_flowCode l o hlm hom
    have ci := impl_flowCode l o hlm hom
    have et : turnB l o = ([], [], flowCode l o) := by unfold turnB; rw [if_neg hc]
    rw [et] at t1 t2
    refine Ev.bind t2 ?_
    refine Ev.bind t1 ?_
    refine Ev.bind (a := (([] : List (List Int)), flowCode l o)) (by simp only [impl_FlowStarts.f]; exact Ev.bind ci (by simp only [if_neg hc]; exact Ev.now _)) ?_
    refine Ev.bind (a := (([] : List (List Int)), flowCode l o)) (by simp only [spec_FlowStarts.f]; exact Ev.bind cs (by simp only [if_neg hc]; exact Ev.now _)) ?_
    refine Ev.bind (a := ((0 : Int), flowCode l o)) (by simp only [impl_IdleTime.f]; exact Ev.bind ci (by simp only [if_neg hc]; exact Ev.now _)) ?_
    refine Ev.bind (a := ((0 : Int), flowCode l o)) (by simp only [spec_IdleTime.f]; exact Ev.bind cs (by simp only [if_neg hc]; exact Ev.now _)) ?_
    simp only [if_true]
    refine Ev.bind (likeFlows [] (by simp)) ?_
    simp only [if_true]
    refine Ev.bind (likeInts [] (by simp)) ?_
    simp only [if_true]
    refine Ev.bind (likeLists [] (by simp) (fun y hy => by cases hy)) ?_
    simp only [if_true, bne_self_eq_false]
    refine Ev.step (fun k => by rw [laws_FnTurnedFlow.j0]) ?_
    simp only [Bool.false_eq_true, if_false, if_neg hc]
    exact Ev.now _

end Go.Proofs.Ytefnoiajfjbbpaa.Pure
