/- The pure statement of law FnFlow: what the printed functions compute answers true at every input. No condition. -/
import Derived.Test.YtefnoiajfjbbpaaPFnFlowx12
set_option linter.unusedVariables false
set_option linter.unusedSimpArgs false
namespace Go.Proofs.Ytefnoiajfjbbpaa.Pure
open Go.RowKit Go.Proofs.Ytefnoiajfjbbpaa.PFnFlow Go.Proofs.YtefnoiajfjbbpaaW.PrintWords Go.Proofs.YtefnoiajfjbbpaaW.PrintLast Go.Proofs.YtefnoiajfjbbpaaW.PrintMore


/-! #### Numbers and rounds -/
theorem w64 {x : Int} (h1 : -9223372036854775808 ≤ x) (h2 : x ≤ 9223372036854775807) : wrap64 x = x := by
  unfold wrap64
  omega
theorem wf64 {x : Int} (h : (Lit.int .i64 x).wf = true) : -9223372036854775808 ≤ x ∧ x ≤ 9223372036854775807 := by
  simp only [Lit.wf, IntKind.min, IntKind.max, IntKind.signed, IntKind.bits, Bool.and_eq_true, decide_eq_true_eq, if_true] at h
  omega
theorem ev_of {α : Type} {g : Nat → Option α} {r : α} (h : ∀ k, g k = some r) : Ev g r := ⟨0, fun k _ => h k⟩
theorem ev_eq {α : Type} {g : Nat → Option α} {r r' : α} (h : Ev g r) (e : r = r') : Ev g r' := e ▸ h
/-- A loop over a list: what lies behind, what lies ahead. -/
theorem loop_list {α : Type} (l : List α) (Q : List α → List α → Prop) (h0 : Q l []) (hs : ∀ p x s, l = p ++ x :: s → Q (p ++ [x]) s → Q p (x :: s)) : Q [] l := by
  have h : ∀ s p, l = p ++ s → Q p s := by
    intro s
    induction s with
    | nil => intro p hp; rw [List.append_nil] at hp; rw [← hp]; exact h0
    | cons x s ih => intro p hp; exact hs p x s hp (ih (p ++ [x]) (by simp [hp]))
  exact h l [] rfl
theorem mid_lt {α : Type} {l p s : List α} {x : α} (h : l = p ++ x :: s) : (p.length : Int) < (l.length : Int) := by
  rw [h, List.length_append, List.length_cons]; omega
theorem mid_next {α : Type} {l p s : List α} {x : α} (h : l = p ++ x :: s) (hl : l.length ≤ 9223372036854775807) : wrap64 ((p.length : Int) + 1) = ((p ++ [x]).length : Int) := by
  have := mid_lt h
  rw [w64 (by omega) (by omega), List.length_append]; simp
theorem mid_get {α : Type} {l p s : List α} {x : α} (h : l = p ++ x :: s) (z : α) : l.getD (p.length : Int).toNat z = x := by
  rw [h]; simp
theorem get_mid {α : Type} (p s : List α) (x z : α) : (p ++ x :: s).getD (p.length : Int).toNat z = x := by simp
theorem nat_nn (n : Nat) : (0 : Int) ≤ (n : Int) := by omega
theorem nlt_self {α : Type} (l : List α) : ¬ ((l.length : Int) < (l.length : Int)) := by omega
theorem set_mid {α : Type} (p s : List α) (x y : α) : (p ++ x :: s).set ((p.length : Int).toNat) y = p ++ y :: s := by
  rw [Int.toNat_natCast, List.set_append_right _ _ (Nat.le_refl _)]; simp
theorem nil_or_snoc {α : Type} (p : List α) : p = [] ∨ ∃ q y, p = q ++ [y] := by
  rcases List.eq_nil_or_concat p with h | ⟨q, y, h⟩
  · exact .inl h
  · exact .inr ⟨q, y, by rw [h, List.concat_eq_append]⟩
theorem loop_all {α : Type} (l : List α) (Q : List α → List α → Prop) (h0 : Q l []) (hs : ∀ p x s, l = p ++ x :: s → Q (p ++ [x]) s → Q p (x :: s)) : ∀ s p, l = p ++ s → Q p s := by
  intro s
  induction s with
  | nil => intro p hp; rw [List.append_nil] at hp; rw [← hp]; exact h0
  | cons x s ih => intro p hp; exact hs p x s hp (ih (p ++ [x]) (by simp [hp]))
def inR (a lo hi : Int) : Bool := decide (lo ≤ a) && decide (a ≤ hi)
theorem inR_iff {a lo hi : Int} : inR a lo hi = true ↔ lo ≤ a ∧ a ≤ hi := by simp [inR]
theorem l01In (a lo hi : Int) : spec_l01In.f a lo hi = some (inR a lo hi) := by
  unfold spec_l01In.f inR
  split
  · rename_i h; rw [decide_eq_true (show lo ≤ a from h), Bool.true_and]
  · rename_i h; rw [decide_eq_false (show ¬ lo ≤ a from h), Bool.false_and]
theorem inRange (a lo hi : Int) : impl_inRange.f a lo hi = some (inR a lo hi) := by
  unfold impl_inRange.f inR
  split
  · rename_i h; rw [decide_eq_true (show lo ≤ a from h), Bool.true_and]
  · rename_i h; rw [decide_eq_false (show ¬ lo ≤ a from h), Bool.false_and]
def okFlow (x : S62) : Bool := inR x.f0 0 100000 && inR x.f1 0 100000
theorem spec_AreFlowJobs (l : List S62) (h : l.length ≤ 1048576) : Ev (fun k => spec_AreFlowJobs.f k l) (l.all okFlow && decide (l.length ≤ 7)) := by
  refine loop_list l (fun p s => Ev (fun k => spec_AreFlowJobs.l0 k l (p.length : Int)) (s.all okFlow && decide (l.length ≤ 7))) ?_ ?_
  · refine Ev.step (fun k => by rw [spec_AreFlowJobs.l0]) ?_
    simp only [if_neg (nlt_self l), List.all_nil, Bool.true_and]
    exact ev_eq (Ev.now _) (decide_eq_decide.2 (by omega))
  · intro p x s he ih
    refine Ev.step (fun k => by rw [spec_AreFlowJobs.l0]) ?_
    simp only [if_pos (mid_lt he), if_pos (nat_nn p.length), mid_next he (by omega), rd_T62, mid_get he, l01In, Option.bind_some, List.all_cons]
    cases h0 : inR x.f0 0 100000 <;> cases h1 : inR x.f1 0 100000 <;> simp [okFlow, h0, h1] <;> first | exact Ev.now _ | simpa [mid_next he (by omega)] using ih
theorem impl_AreFlowJobs_1_ok (x : S62) : impl_AreFlowJobs_1.f x.f0 x.f1 = some (!(okFlow x)) := by
  simp only [impl_AreFlowJobs_1.f, impl_isMinutes.f, inRange, Option.bind_some, okFlow]
  cases inR x.f0 0 100000 <;> cases inR x.f1 0 100000 <;> rfl
theorem contains_impl_AreFlowJobs_1 (l : List S62) (h : l.length ≤ 1048576) : Ev (fun k => slices_ContainsFunc_at_impl_AreFlowJobs_1.f k l) (!(l.all okFlow)) := by
  have H := loop_list l (fun p s => ∃ r, Ev (fun k => slices_IndexFunc_at_impl_AreFlowJobs_1.l0 k l (l.length : Int) (p.length : Int)) r ∧ decide (r ≥ 0) = !(s.all okFlow)) ?_ ?_
  · obtain ⟨r, hr, e⟩ := H
    rw [← e]
    exact Ev.bind hr (Ev.now _)
  · refine ⟨-1, Ev.step (fun k => by rw [slices_IndexFunc_at_impl_AreFlowJobs_1.l0]) ?_, by simp⟩
    simp only [if_neg (nlt_self l)]
    exact Ev.now _
  · rintro p x s he ⟨r, ih, e⟩
    by_cases hx : okFlow x = true
    · refine ⟨r, Ev.step (fun k => by rw [slices_IndexFunc_at_impl_AreFlowJobs_1.l0]) ?_, by rw [e]; simp [hx]⟩
      simp only [if_pos (mid_lt he), if_pos (nat_nn p.length), rd_T62, mid_get he, impl_AreFlowJobs_1_ok, hx, Option.bind_some, mid_next he (by omega)]
      exact ih
    · refine ⟨(p.length : Int), Ev.step (fun k => by rw [slices_IndexFunc_at_impl_AreFlowJobs_1.l0]) ?_, by simp [hx]⟩
      simp only [if_pos (mid_lt he), if_pos (nat_nn p.length), rd_T62, mid_get he, impl_AreFlowJobs_1_ok, Bool.eq_false_iff.2 hx, Option.bind_some]
      exact Ev.now _
theorem impl_AreFlowJobs (l : List S62) (h : l.length ≤ 1048576) : Ev (fun k => impl_AreFlowJobs.f k l) (l.all okFlow && decide (l.length ≤ 7)) := by
  simp only [impl_AreFlowJobs.f]
  by_cases hl : (l.length : Int) ≤ 7
  · simp only [if_pos hl]
    exact ev_eq (Ev.bind (contains_impl_AreFlowJobs_1 l h) (Ev.now _)) (by simp [show l.length ≤ 7 by omega])
  · simp only [if_neg hl]
    exact ev_eq (Ev.now _) (by simp [show ¬ l.length ≤ 7 by omega])

/-- The numbers from m on. -/
def numsI (m : Int) : Nat → List Int
  | 0 => []
  | n + 1 => m :: numsI (m + 1) n
theorem numsI_length (n : Nat) : ∀ m, (numsI m n).length = n := by
  induction n with
  | zero => intro m; rfl
  | succ n ih => intro m; simp [numsI, ih]
/-- A number put ahead of the first that it is less than. -/
def insF (lt : Int → Int → Bool) (x : Int) : List Int → List Int
  | [] => [x]
  | y :: t => if lt x y = true then x :: y :: t else y :: insF lt x t
def sortF (lt : Int → Int → Bool) : Nat → List Int
  | 0 => []
  | n + 1 => insF lt (n : Int) (sortF lt n)
/-- None is less than one ahead of it. -/
def srtd (lt : Int → Int → Bool) (p : List Int) : Prop := ∀ u y v, p = u ++ y :: v → ∀ z ∈ v, lt z y = false
theorem insF_length (lt : Int → Int → Bool) (x : Int) (p : List Int) : (insF lt x p).length = p.length + 1 := by
  induction p with
  | nil => rfl
  | cons y p ih => simp only [insF]; split <;> simp [ih]
theorem sortF_length (lt : Int → Int → Bool) (n : Nat) : (sortF lt n).length = n := by
  induction n with
  | zero => rfl
  | succ n ih => simp [sortF, insF_length, ih]
theorem insF_mem {lt : Int → Int → Bool} {x z : Int} : ∀ {p : List Int}, z ∈ insF lt x p ↔ z = x ∨ z ∈ p := by
  intro p
  induction p with
  | nil => simp [insF]
  | cons y p ih =>
    simp only [insF]
    split
    · simp
    · simp only [List.mem_cons, ih]
      constructor
      · rintro (h | h | h)
        · exact Or.inr (Or.inl h)
        · exact Or.inl h
        · exact Or.inr (Or.inr h)
      · rintro (h | h | h)
        · exact Or.inr (Or.inl h)
        · exact Or.inl h
        · exact Or.inr (Or.inr h)
theorem sortF_mem {lt : Int → Int → Bool} : ∀ {n : Nat} {z : Int}, z ∈ sortF lt n → 0 ≤ z ∧ z < (n : Int) := by
  intro n
  induction n with
  | zero => intro z h; cases h
  | succ n ih =>
    intro z h
    rcases insF_mem.1 h with rfl | h
    · omega
    · have := ih h; omega
theorem srtd_cons {lt : Int → Int → Bool} {y : Int} {p : List Int} : srtd lt (y :: p) ↔ (∀ z ∈ p, lt z y = false) ∧ srtd lt p := by
  constructor
  · intro h
    exact ⟨h [] y p rfl, fun u w v e => h (y :: u) w v (by rw [e]; rfl)⟩
  · rintro ⟨h1, h2⟩ u w v e
    cases u with
    | nil => simp only [List.nil_append, List.cons.injEq] at e; obtain ⟨rfl, rfl⟩ := e; exact h1
    | cons q u => simp only [List.cons_append, List.cons.injEq] at e; exact h2 u w v e.2
theorem insF_srtd {lt : Int → Int → Bool} (hO : ∀ x y z, lt x y = true → lt z y = false → lt x z = true) (hA : ∀ x y, lt x y = true → lt y x = false) (x : Int) : ∀ p, srtd lt p → srtd lt (insF lt x p) := by
  intro p
  induction p with
  | nil => intro _; exact srtd_cons.2 ⟨fun z hz => (by cases hz), fun u y v e => (by simp at e)⟩
  | cons y p ih =>
    intro h
    obtain ⟨h1, h2⟩ := srtd_cons.1 h
    simp only [insF]
    by_cases hx : lt x y = true
    · rw [if_pos hx]
      refine srtd_cons.2 ⟨fun z hz => ?_, h⟩
      rcases List.mem_cons.1 hz with rfl | hz
      · exact hA _ _ hx
      · exact hA _ _ (hO x y z hx (h1 z hz))
    · rw [if_neg hx]
      refine srtd_cons.2 ⟨fun z hz => ?_, ih h2⟩
      rcases insF_mem.1 hz with rfl | hz
      · exact Bool.eq_false_iff.2 hx
      · exact h1 z hz
theorem sortF_srtd {lt : Int → Int → Bool} (hO : ∀ x y z, lt x y = true → lt z y = false → lt x z = true) (hA : ∀ x y, lt x y = true → lt y x = false) (n : Nat) : srtd lt (sortF lt n) := by
  induction n with
  | zero => intro u y v e; simp [sortF] at e
  | succ n ih => exact insF_srtd hO hA _ _ ih
theorem insF_at {lt : Int → Int → Bool} {x : Int} : ∀ (u v : List Int), (∀ w ∈ u, lt x w = false) → (v = [] ∨ ∃ y t, v = y :: t ∧ lt x y = true) → insF lt x (u ++ v) = u ++ x :: v := by
  intro u
  induction u with
  | nil =>
    rintro v _ (rfl | ⟨y, t, rfl, h⟩)
    · rfl
    · simp only [List.nil_append, insF, if_pos h]
  | cons w u ih =>
    intro v h1 h2
    simp only [List.cons_append, insF, if_neg (Bool.eq_false_iff.1 (h1 w (by simp))), ih v (fun z hz => h1 z (by simp [hz])) h2]
theorem srtd_all {lt : Int → Int → Bool} (hO : ∀ x y z, lt x y = true → lt z y = false → lt x z = true) {x y : Int} {u v : List Int} (h : srtd lt (u ++ y :: v)) (hy : lt x y = false) : ∀ w ∈ u ++ [y], lt x w = false := by
  intro w hw
  rcases List.mem_append.1 hw with hw | hw
  · obtain ⟨a, b, rfl⟩ := List.append_of_mem hw
    have := h a w (b ++ y :: v) (by simp) y (by simp)
    cases e : lt x w
    · rfl
    · rw [hO x w y e this] at hy; cases hy
  · have : w = y := by simpa using hw
    rw [this]; exact hy
theorem ins_impl_twoPartOrder_1 {l : List S62} {lt : Int → Int → Bool} (hcmp : ∀ a b : Int, 0 ≤ a → a < (l.length : Int) → 0 ≤ b → b < (l.length : Int) → ∃ t : Int, Ev (fun k => impl_twoPartOrder_1.f k a b l) t ∧ (t < 0 ↔ lt a b = true)) (hO : ∀ x y z, lt x y = true → lt z y = false → lt x z = true)
    {x : Int} (hx0 : 0 ≤ x) (hx1 : x < (l.length : Int)) (n i : Int) {r : List Int} (rest : List Int) : ∀ (d : Nat) (u v : List Int), u.length = d → (u ++ v).length + rest.length ≤ 1000000 → srtd lt (u ++ v) → (∀ z ∈ u ++ v, 0 ≤ z ∧ z < (l.length : Int)) → (v = [] ∨ ∃ y t, v = y :: t ∧ lt x y = true) →
    Ev (fun k => slices_insertionSortCmpFunc_at_impl_twoPartOrder_1.l0 k (insF lt x (u ++ v) ++ rest) 0 n l (wrap64 (i + 1))) r → Ev (fun k => slices_insertionSortCmpFunc_at_impl_twoPartOrder_1.l1 k (u ++ x :: (v ++ rest)) 0 n l i (u.length : Int)) r := by
  intro d
  induction d with
  | zero =>
    intro u v hu hl hs hm hv h
    have : u = [] := List.eq_nil_of_length_eq_zero hu
    subst this
    rw [insF_at [] v (fun w hw => by cases hw) hv] at h
    refine Ev.step (fun k => by rw [slices_insertionSortCmpFunc_at_impl_twoPartOrder_1.l1]) ?_
    simp only [if_neg (show ¬ (((([] : List Int).length : Nat) : Int) > 0) by simp)]
    simpa using h
  | succ d ih =>
    intro u v hu hl hs hm hv h
    rcases nil_or_snoc u with rfl | ⟨u, y, rfl⟩
    · simp at hu
    · have hul : u.length = d := by simpa using hu
      have hy := hm y (by simp)
      have hpl : ((u ++ [y]).length : Int) = (u.length : Int) + 1 := by simp
      have hlen : ((u ++ [y] ++ x :: (v ++ rest)).length : Int) = (u.length : Int) + 2 + (v.length : Int) + (rest.length : Int) := by simp; omega
      have hl' : u.length + 1 + v.length + rest.length ≤ 1000000 := by simpa [Nat.add_assoc, Nat.add_comm, Nat.add_left_comm] using hl
      have e1 : wrap64 ((u.length : Int) + 1 - 1) = (u.length : Int) := by rw [show (u.length : Int) + 1 - 1 = (u.length : Int) by omega]; exact w64 (by omega) (by omega)
      have g1 : rd (u ++ [y] ++ x :: (v ++ rest)) ((u.length : Int) + 1) = x := by
        rw [← hpl]; exact get_mid _ _ _ 0
      have g2 : rd (u ++ [y] ++ x :: (v ++ rest)) (u.length : Int) = y := by
        rw [show u ++ [y] ++ x :: (v ++ rest) = u ++ y :: (x :: (v ++ rest)) by simp]; exact get_mid _ _ _ 0
      obtain ⟨t, ht, hlt⟩ := hcmp x y hx0 hx1 hy.1 hy.2
      refine Ev.step (fun k => by rw [slices_insertionSortCmpFunc_at_impl_twoPartOrder_1.l1]) ?_
      simp only [hpl, if_pos (show (u.length : Int) + 1 > 0 by omega), if_pos (show 0 ≤ (u.length : Int) + 1 by omega), hlen, if_pos (show (u.length : Int) + 1 < (u.length : Int) + 2 + (v.length : Int) + (rest.length : Int) by omega), e1, if_pos (nat_nn u.length), if_pos (show (u.length : Int) < (u.length : Int) + 2 + (v.length : Int) + (rest.length : Int) by omega), g1, g2]
      refine Ev.bind ht ?_
      by_cases hc : lt x y = true
      · simp only [if_pos (hlt.2 hc)]
        have s1 : ((u ++ [y] ++ x :: (v ++ rest)).set (((u.length : Int) + 1)).toNat y).set ((u.length : Int)).toNat x = u ++ x :: ((y :: v) ++ rest) := by
          rw [← hpl, set_mid, show u ++ [y] ++ y :: (v ++ rest) = u ++ y :: (y :: (v ++ rest)) by simp, set_mid]
          simp
        rw [s1]
        refine ih u (y :: v) hul (by simpa [Nat.add_assoc, Nat.add_comm, Nat.add_left_comm] using hl) (by simpa using hs) (fun z hz => hm z (by simpa using hz)) (Or.inr ⟨y, v, rfl, hc⟩) ?_
        simpa using h
      · have hc' := Bool.eq_false_iff.2 hc
        simp only [if_neg (fun h => hc (hlt.1 h))]
        rw [insF_at (u ++ [y]) v (srtd_all hO (by simpa using hs) hc') hv] at h
        simpa using h
theorem sort_impl_twoPartOrder_1 {l : List S62} {lt : Int → Int → Bool} (hcmp : ∀ a b : Int, 0 ≤ a → a < (l.length : Int) → 0 ≤ b → b < (l.length : Int) → ∃ t : Int, Ev (fun k => impl_twoPartOrder_1.f k a b l) t ∧ (t < 0 ↔ lt a b = true)) (hO : ∀ x y z, lt x y = true → lt z y = false → lt x z = true) (hA : ∀ x y, lt x y = true → lt y x = false)
    : ∀ (m i : Nat), i + m = l.length → l.length ≤ 1000 → Ev (fun k => slices_insertionSortCmpFunc_at_impl_twoPartOrder_1.l0 k (sortF lt i ++ numsI (i : Int) m) 0 (l.length : Int) l (i : Int)) (sortF lt l.length) := by
  intro m
  induction m with
  | zero =>
    intro i hi hl
    have : i = l.length := by omega
    subst this
    refine Ev.step (fun k => by rw [slices_insertionSortCmpFunc_at_impl_twoPartOrder_1.l0]) ?_
    simp only [if_neg (nlt_self l), numsI, List.append_nil]
    exact Ev.now _
  | succ m ih =>
    intro i hi hl
    refine Ev.step (fun k => by rw [slices_insertionSortCmpFunc_at_impl_twoPartOrder_1.l0]) ?_
    simp only [if_pos (show (i : Int) < (l.length : Int) by omega), numsI]
    have hn := ih (i + 1) (by omega) hl
    have := ins_impl_twoPartOrder_1 hcmp hO (x := (i : Int)) (by omega) (by omega) (l.length : Int) (i : Int) (r := sortF lt l.length) (numsI ((i : Int) + 1) m) i (sortF lt i) [] (sortF_length lt i) (by simp [sortF_length, numsI_length]; omega) (by simpa using sortF_srtd hO hA i) (fun z hz => by
      have := sortF_mem (by simpa using hz : z ∈ sortF lt i)
      omega) (Or.inl rfl) (by
      rw [w64 (by omega) (by omega), List.append_nil]
      have e : ((i + 1 : Nat) : Int) = (i : Int) + 1 := by omega
      rw [e] at hn
      exact hn)
    rw [sortF_length] at this
    simpa using this
theorem sorted_impl_twoPartOrder_1 {l : List S62} {lt : Int → Int → Bool} (hcmp : ∀ a b : Int, 0 ≤ a → a < (l.length : Int) → 0 ≤ b → b < (l.length : Int) → ∃ t : Int, Ev (fun k => impl_twoPartOrder_1.f k a b l) t ∧ (t < 0 ↔ lt a b = true)) (hO : ∀ x y z, lt x y = true → lt z y = false → lt x z = true) (hA : ∀ x y, lt x y = true → lt y x = false)
    (h7 : l.length ≤ 7) : Ev (fun k => impl_sortedBy_at_impl_twoPartOrder_1.f k (l.length : Int) l) (sortF lt l.length) := by
  have hs : Ev (fun k => slices_SortStableFunc_at_impl_twoPartOrder_1.f k (numsI 0 l.length) l) (sortF lt l.length) := by
    simp only [slices_SortStableFunc_at_impl_twoPartOrder_1.f]
    refine Ev.bind (a := sortF lt l.length) ?_ (Ev.now _)
    simp only [slices_stableCmpFunc_at_impl_twoPartOrder_1.f, numsI_length]
    refine Ev.step (fun k => by rw [slices_stableCmpFunc_at_impl_twoPartOrder_1.l0]) ?_
    simp only [if_neg (show ¬ ((20 : Int) ≤ (l.length : Int)) by omega)]
    refine Ev.bind (a := sortF lt l.length) ?_ ?_
    · simp only [slices_insertionSortCmpFunc_at_impl_twoPartOrder_1.f]
      rw [show wrap64 ((0 : Int) + 1) = ((1 : Nat) : Int) from w64 (by omega) (by omega)]
      by_cases h0 : l.length = 0
      · rw [h0]
        refine Ev.step (fun k => by rw [slices_insertionSortCmpFunc_at_impl_twoPartOrder_1.l0]) ?_
        simp only [if_neg (show ¬ (((1 : Nat) : Int) < ((0 : Nat) : Int)) by omega), numsI, sortF]
        exact Ev.now _
      · have := sort_impl_twoPartOrder_1 hcmp hO hA (l.length - 1) 1 (by omega) (by omega)
        have e : numsI 0 l.length = sortF lt 1 ++ numsI ((1 : Nat) : Int) (l.length - 1) := by
          rw [show l.length = (l.length - 1) + 1 by omega]
          simp [numsI, sortF, insF]
        rw [← e] at this
        exact this
    · refine Ev.step (fun k => by rw [slices_stableCmpFunc_at_impl_twoPartOrder_1.l1]) ?_
      simp only [if_neg (show ¬ ((20 : Int) < (l.length : Int)) by omega)]
      exact Ev.now _
  simp only [impl_sortedBy_at_impl_twoPartOrder_1.f]
  have H : ∀ (m : Nat) (acc : List Int) (i : Int), 0 ≤ i → i + (m : Int) = (l.length : Int) → (acc.length : Int) = i → acc ++ numsI i m = numsI 0 l.length → Ev (fun k => impl_sortedBy_at_impl_twoPartOrder_1.l0 k l acc (l.length : Int) i) (sortF lt l.length) := by
    intro m
    induction m with
    | zero =>
      intro acc i h0 hi ha he
      refine Ev.step (fun k => by rw [impl_sortedBy_at_impl_twoPartOrder_1.l0]) ?_
      simp only [if_neg (show ¬ (i < (l.length : Int)) by omega)]
      simp only [numsI, List.append_nil] at he
      rw [he]
      exact Ev.bind hs (Ev.now _)
    | succ m ih =>
      intro acc i h0 hi ha he
      refine Ev.step (fun k => by rw [impl_sortedBy_at_impl_twoPartOrder_1.l0]) ?_
      simp only [if_pos (show i < (l.length : Int) by omega), if_pos (show acc.length < 17592186044416 by omega), w64 (x := i + 1) (by omega) (by omega)]
      exact ih (acc ++ [i]) (i + 1) (by omega) (by omega) (by simp; omega) (by simpa [numsI] using he)
  exact H l.length [] 0 (by omega) (by omega) rfl rfl
def keyA (x : S62) : Int := if x.f0 < x.f1 then 0 else 1
def keyB (x : S62) : Int := if x.f0 < x.f1 then x.f0 else wrap64 (-x.f1)
def ltX (x y : S62) : Bool := if keyA x = keyA y then decide (keyB x < keyB y) else decide (keyA x < keyA y)
def ltT (l : List S62) (a b : Int) : Bool := ltX (rd_T62 l a) (rd_T62 l b)
theorem ltT_O (l : List S62) : ∀ x y z, ltT l x y = true → ltT l z y = false → ltT l x z = true := by
  intro x y z h1 h2
  simp only [ltT, ltX] at h1 h2 ⊢
  split at h1 <;> split at h2 <;> split <;> simp only [decide_eq_true_eq, decide_eq_false_iff_not] at h1 h2 ⊢ <;> omega
theorem ltT_A (l : List S62) : ∀ x y, ltT l x y = true → ltT l y x = false := by
  intro x y h1
  simp only [ltT, ltX] at h1 ⊢
  split at h1 <;> split <;> simp only [decide_eq_true_eq, decide_eq_false_iff_not] at h1 ⊢ <;> omega
theorem cmp64 (a b : Int) : ∃ t : Int, cmp_Compare_int64.f a b = some t ∧ (t < 0 ↔ a < b) := by
  simp only [cmp_Compare_int64.f, cmp_isNaN_int64.f, Option.bind_some, bne_self_eq_false, Bool.false_eq_true, if_false]
  by_cases h : a < b
  · exact ⟨-1, by simp only [if_pos h], by simp [h]⟩
  · by_cases h' : a > b
    · exact ⟨1, by simp only [if_neg h, if_pos h'], by simp [h]⟩
    · exact ⟨0, by simp only [if_neg h, if_neg h'], by simp [h]⟩
theorem cmp_two (l : List S62) (hok : ∀ x ∈ l, okFlow x = true) (a b : Int) (ha : 0 ≤ a) (ha1 : a < (l.length : Int)) (hb : 0 ≤ b) (hb1 : b < (l.length : Int)) : ∃ t : Int, Ev (fun k => impl_twoPartOrder_1.f k a b l) t ∧ (t < 0 ↔ ltT l a b = true) := by
  have hm : ∀ i : Int, 0 ≤ i → i < (l.length : Int) → 0 ≤ (rd_T62 l i).f1 ∧ (rd_T62 l i).f1 ≤ 100000 := by
    intro i h0 h1
    have hi : i.toNat < l.length := by omega
    have : rd_T62 l i ∈ l := by
      unfold rd_T62
      rw [List.getD_eq_getElem?_getD, List.getElem?_eq_getElem hi]
      exact List.getElem_mem hi
    have := hok _ this
    simp only [okFlow, Bool.and_eq_true, inR_iff] at this
    omega
  have ra := hm a ha ha1
  have rb := hm b hb hb1
  simp only [impl_twoPartOrder_1.f, if_pos ha, if_pos ha1, if_pos hb, if_pos hb1, ltT]
  generalize rd_T62 l a = x at ra ⊢
  generalize rd_T62 l b = y at rb ⊢
  have wx : wrap64 (-x.f1) = -x.f1 := w64 (by omega) (by omega)
  have wy : wrap64 (-y.f1) = -y.f1 := w64 (by omega) (by omega)
  by_cases h1 : x.f0 < x.f1
  · by_cases h2 : y.f0 < y.f1
    · obtain ⟨t, ht, hlt⟩ := cmp64 x.f0 y.f0
      refine ⟨t, ?_, by simp [ltX, keyA, keyB, h1, h2, hlt]⟩
      simp only [if_pos h1, decide_eq_true h1, decide_eq_true h2]
      refine Ev.step (fun k => by rw [impl_twoPartOrder_1.j0]) ?_
      simp only [if_true, ht, Option.bind_some]
      exact Ev.now _
    · refine ⟨-1, ?_, by simp [ltX, keyA, keyB, h1, h2]⟩
      simp only [if_pos h1, decide_eq_true h1, decide_eq_false h2]
      refine Ev.step (fun k => by rw [impl_twoPartOrder_1.j0]) ?_
      simp only [Bool.false_eq_true, if_false, if_true]
      refine Ev.step (fun k => by rw [impl_twoPartOrder_1.j1]) ?_
      simp only [Bool.false_eq_true, if_false, impl_toInt.f, if_true, Option.bind_some]
      exact ev_eq (Ev.now _) (w64 (x := 0 - 1) (by omega) (by omega))
  · by_cases h2 : y.f0 < y.f1
    · refine ⟨1, ?_, by simp [ltX, keyA, keyB, h1, h2]⟩
      simp only [if_neg h1, decide_eq_false h1, decide_eq_true h2]
      refine Ev.step (fun k => by rw [impl_twoPartOrder_1.j0]) ?_
      simp only [Bool.false_eq_true, if_false, Bool.not_true]
      refine Ev.step (fun k => by rw [impl_twoPartOrder_1.j1]) ?_
      simp only [Bool.false_eq_true, if_false, impl_toInt.f, if_true, Option.bind_some]
      exact ev_eq (Ev.now _) (w64 (x := 1 - 0) (by omega) (by omega))
    · obtain ⟨t, ht, hlt⟩ := cmp64 y.f1 x.f1
      refine ⟨t, ?_, by simp only [ltX, keyA, keyB, if_neg h1, if_neg h2, if_true, wx, wy, decide_eq_true_eq, hlt]; omega⟩
      simp only [if_neg h1, decide_eq_false h1, decide_eq_false h2]
      refine Ev.step (fun k => by rw [impl_twoPartOrder_1.j0]) ?_
      simp only [Bool.false_eq_true, if_false, Bool.not_false]
      refine Ev.step (fun k => by rw [impl_twoPartOrder_1.j1]) ?_
      simp only [if_true, ht, Option.bind_some]
      exact Ev.now _
theorem less_two (a b c d : Int) : Ev (fun k => spec_l01Less.f k [a, b] [c, d]) (if a = c then decide (b < d) else decide (a < c)) := by
  simp only [spec_l01Less.f]
  have r0 : rd [a, b] 0 = a := rfl
  have r1 : rd [c, d] 0 = c := rfl
  have r2 : rd [a, b] 1 = b := rfl
  have r3 : rd [c, d] 1 = d := rfl
  have l2 : (([a, b] : List Int).length : Int) = 2 := rfl
  have l3 : (([c, d] : List Int).length : Int) = 2 := rfl
  refine Ev.step (fun k => by rw [spec_l01Less.l0]) ?_
  simp only [l2, l3, if_pos (show (0 : Int) < 2 by decide), decide_eq_true (show (0 : Int) < 2 by decide)]
  refine Ev.step (fun k => by rw [spec_l01Less.j1]) ?_
  simp only [if_true, if_pos (show (0 : Int) ≤ 0 by decide), l2, l3, if_pos (show (0 : Int) < 2 by decide), r0, r1]
  by_cases h : a = c
  · simp only [if_pos h]
    rw [show wrap64 ((0 : Int) + 1) = 1 from w64 (by omega) (by omega)]
    refine Ev.step (fun k => by rw [spec_l01Less.l0]) ?_
    simp only [l2, l3, if_pos (show (1 : Int) < 2 by decide), decide_eq_true (show (1 : Int) < 2 by decide)]
    refine Ev.step (fun k => by rw [spec_l01Less.j1]) ?_
    simp only [if_true, if_pos (show (0 : Int) ≤ 1 by decide), l2, l3, if_pos (show (1 : Int) < 2 by decide), r2, r3]
    by_cases h' : b = d
    · simp only [if_pos h']
      rw [show wrap64 ((1 : Int) + 1) = 2 from w64 (by omega) (by omega)]
      refine Ev.step (fun k => by rw [spec_l01Less.l0]) ?_
      simp only [l2, if_neg (show ¬ (2 : Int) < 2 by decide)]
      refine Ev.step (fun k => by rw [spec_l01Less.j1]) ?_
      simp only [Bool.false_eq_true, if_false, l2, l3]
      exact ev_eq (Ev.now _) (by simp [h'])
    · simp only [if_neg h']
      exact Ev.now _
  · simp only [if_neg h]
    exact Ev.now _
def keyT (l : List S62) : List (List Int) := l.map fun x => [keyA x, keyB x]
theorem key_at {l p s : List S62} (h : l = p ++ s) {i : Int} (h0 : 0 ≤ i) (h1 : i < (p.length : Int)) : rd_L4 (keyT p) i = [keyA (rd_T62 l i), keyB (rd_T62 l i)] := by
  have hi : i.toNat < p.length := by omega
  unfold rd_L4 keyT rd_T62
  subst h
  simp [List.getD_eq_getElem?_getD, List.getElem?_append_left hi, hi]
theorem spec_insert {l p s : List S62} {x : S62} (he : l = p ++ x :: s) (hl : l.length ≤ 1048576) (q : List Int) (hq : q.length = p.length) (hm : ∀ z ∈ q, 0 ≤ z ∧ z < (p.length : Int)) : Ev (fun k => spec_l20Insert.f k q (keyT (p ++ [x])) (p.length : Int)) (insF (ltT l) (p.length : Int) q) := by
  simp only [spec_l20Insert.f]
  have hkl : (keyT (p ++ [x])).length = p.length + 1 := by simp [keyT]
  have hpl := mid_lt he
  have he' : l = (p ++ [x]) ++ s := by rw [he]; simp
  have hfin : ∀ (u v : List Int), q = u ++ v → Ev (fun _ : Nat => (spec_l01Own.f (q.take ((u.length : Int)).toNat)).bind fun t145 => ((some (([(p.length : Int)] : List Int) : List Int)).bind fun y148 => (if t145.length + y148.length < 17592186044416 then ((some (t145 ++ y148 : List Int)).bind fun y151 => (if y151.length + (q.drop ((u.length : Int)).toNat).length < 17592186044416 then (some (y151 ++ (q.drop ((u.length : Int)).toNat))) else (none))) else (none)))) (u ++ (p.length : Int) :: v) := by
    intro u v e
    have e1 : q.take ((u.length : Int)).toNat = u := by rw [e, Int.toNat_natCast]; simp
    have e2 : q.drop ((u.length : Int)).toNat = v := by rw [e, Int.toNat_natCast]; simp
    have el := congrArg List.length e
    simp only [List.length_append] at el
    simp only [e1, e2, spec_l01Own.f, Option.bind_some, List.length_nil, List.nil_append, if_pos (show 0 + u.length < 17592186044416 by omega), List.length_singleton, if_pos (show u.length + 1 < 17592186044416 by omega), List.length_append, if_pos (show u.length + 1 + v.length < 17592186044416 by omega)]
    exact ev_eq (Ev.now _) (by simp)
  refine loop_list q (fun u v => Ev (fun k => spec_l20Insert.l0 k q (keyT (p ++ [x])) (p.length : Int) (u.length : Int)) (u ++ insF (ltT l) (p.length : Int) v)) ?_ ?_
  · refine Ev.step (fun k => by rw [spec_l20Insert.l0]) ?_
    simp only [if_neg (nlt_self q), if_pos (nat_nn q.length), if_pos (Int.le_refl (q.length : Int))]
    exact hfin q [] (by simp)
  · intro u y v e ih
    have hu := mid_lt e
    have hy := hm y (by rw [e]; simp)
    have ry : rd q (u.length : Int) = y := mid_get e 0
    have k1 := key_at he' (nat_nn p.length) (by simp; omega : (p.length : Int) < ((p ++ [x]).length : Int))
    have k2 := key_at he' hy.1 (by simp; omega : y < ((p ++ [x]).length : Int))
    refine Ev.step (fun k => by rw [spec_l20Insert.l0]) ?_
    simp only [if_pos hu, if_pos (nat_nn p.length), hkl, if_pos (show (p.length : Int) < ((p.length + 1 : Nat) : Int) by omega), if_pos (nat_nn u.length), ry, if_pos hy.1, if_pos (show y < ((p.length + 1 : Nat) : Int) by omega), k1, k2]
    refine Ev.bind (a := ltT l (p.length : Int) y) (less_two _ _ _ _) ?_
    by_cases hlt : ltT l (p.length : Int) y = true
    · simp only [hlt, if_true, if_pos (show (u.length : Int) ≤ (q.length : Int) by omega), insF, if_pos hlt]
      exact hfin u (y :: v) e
    · simp only [if_neg hlt, mid_next e (by omega), insF]
      simpa using ih
theorem spec_two (l : List S62) (h7 : l.length ≤ 1000) : Ev (fun k => spec_l21Two.f k l) (sortF (ltT l) l.length) := by
  simp only [spec_l21Two.f]
  refine loop_list l (fun p s => Ev (fun k => spec_l21Two.l0 k l (keyT p) (sortF (ltT l) p.length) (p.length : Int)) (sortF (ltT l) l.length)) ?_ ?_
  · refine Ev.step (fun k => by rw [spec_l21Two.l0]) ?_
    simp only [if_neg (nlt_self l)]
    exact Ev.now _
  · intro p x s he ih
    have hp := mid_lt he
    have hx : rd_T62 l (p.length : Int) = x := by unfold rd_T62; exact mid_get he _
    have hk : (keyT p).length = p.length := by simp [keyT]
    have hins := spec_insert he (by omega) (sortF (ltT l) p.length) (sortF_length _ _) (fun z hz => sortF_mem hz)
    have e : sortF (ltT l) (p ++ [x]).length = insF (ltT l) (p.length : Int) (sortF (ltT l) p.length) := by
      rw [show (p ++ [x]).length = p.length + 1 by simp]; rfl
    rw [e] at ih
    refine Ev.step (fun k => by rw [spec_l21Two.l0]) ?_
    simp only [if_pos hp, if_pos (nat_nn p.length), hk, hx, if_pos (show p.length < 5864062014805 by omega), Option.bind_some, mid_next he (by omega)]
    by_cases h : x.f0 < x.f1
    · have ek : keyT p ++ [[0, x.f0]] = keyT (p ++ [x]) := by simp [keyT, keyA, keyB, h]
      simp only [if_pos h, ek]
      exact Ev.bind hins ih
    · have ek : keyT p ++ [[1, wrap64 (-x.f1)]] = keyT (p ++ [x]) := by simp [keyT, keyA, keyB, h]
      simp only [if_neg h, ek]
      exact Ev.bind hins ih
/-- Each number is in the range, and none comes twice. -/
def ordF (n : Int) (seen : List Int) : List Int → Bool
  | [] => true
  | x :: s => inR x 0 (n - 1) && (!(decide (x ∈ seen)) && ordF n (seen ++ [x]) s)
def orderB (l : List Int) : Bool := ordF (l.length : Int) [] l && decide (l.length ≤ 64)
theorem spec_has (l : List Int) (y : Int) (h : l.length ≤ 9000000000000000000) : Ev (fun k => spec_l01Has.f k l y) (decide (y ∈ l)) := by
  refine loop_list l (fun p s => Ev (fun k => spec_l01Has.l0 k l y (p.length : Int)) (decide (y ∈ s))) ?_ ?_
  · refine Ev.step (fun k => by rw [spec_l01Has.l0]) ?_
    simp only [if_neg (nlt_self l)]
    exact ev_eq (Ev.now _) (by simp)
  · intro p x s he ih
    refine Ev.step (fun k => by rw [spec_l01Has.l0]) ?_
    have hx : rd l (p.length : Int) = x := mid_get he 0
    simp only [if_pos (mid_lt he), if_pos (nat_nn p.length), hx, mid_next he (by omega)]
    by_cases e : x = y
    · simp only [if_pos e]
      exact ev_eq (Ev.now _) (by simp [e])
    · simp only [if_neg e]
      exact ev_eq ih (by simp [show ¬ y = x from fun h => e h.symm])
theorem spec_IsOrder (l : List Int) (h : l.length ≤ 1048576) : Ev (fun k => spec_IsOrder.f k l) (orderB l) := by
  refine loop_list l (fun p s => Ev (fun k => spec_IsOrder.l0 k l (p.length : Int)) (ordF (l.length : Int) p s && decide (l.length ≤ 64))) ?_ ?_
  · refine Ev.step (fun k => by rw [spec_IsOrder.l0]) ?_
    simp only [if_neg (nlt_self l), ordF, Bool.true_and]
    exact ev_eq (Ev.now _) (decide_eq_decide.2 (by omega))
  · intro p x s he ih
    refine Ev.step (fun k => by rw [spec_IsOrder.l0]) ?_
    have hx : rd l (p.length : Int) = x := mid_get he 0
    have hp := mid_lt he
    have ht : l.take ((p.length : Int).toNat) = p := by rw [he, Int.toNat_natCast]; simp
    simp only [if_pos hp, if_pos (nat_nn p.length), hx, w64 (x := (l.length : Int) - 1) (by omega) (by omega), l01In, Option.bind_some, if_pos (show (p.length : Int) ≤ (l.length : Int) by omega), ht, mid_next he (by omega), ordF]
    cases inR x 0 ((l.length : Int) - 1)
    · simp only [Bool.false_eq_true, if_false, Bool.false_and]
      exact Ev.now _
    · simp only [if_true, Bool.true_and]
      refine Ev.bind (spec_has p x (by omega)) ?_
      cases decide (x ∈ p)
      · simp only [Bool.false_eq_true, if_false, Bool.not_false, Bool.true_and]
        exact ih
      · simp only [if_true, Bool.not_true, Bool.false_and]
        exact Ev.now _
theorem impl_IsOrder (l : List Int) (h : l.length ≤ 1048576) : Ev (fun k => impl_IsOrder.f k l) (orderB l) := by
  simp only [impl_IsOrder.f]
  by_cases hl : (l.length : Int) > 64
  · simp only [if_pos hl]
    exact ev_eq (Ev.now _) (by simp [orderB, show ¬ l.length ≤ 64 by omega])
  · simp only [if_neg hl, if_pos (nat_nn l.length), Int.toNat_natCast, if_pos (show l.length ≤ 281474976710656 by omega)]
    refine ev_eq (r := ordF (l.length : Int) [] l) ?_ (by simp [orderB, show l.length ≤ 64 by omega])
    refine loop_list l (fun p s => ∀ b : List Bool, b.length = l.length → (∀ v : Nat, v < l.length → b.getD v false = decide ((v : Int) ∈ p)) → Ev (fun k => impl_IsOrder.l0 k l b l (l.length : Int) (p.length : Int)) (ordF (l.length : Int) p s)) ?_ ?_ (List.replicate l.length false) (by simp) (by intro v hv; simp [List.getD_eq_getElem?_getD, List.getElem?_replicate, hv])
    · intro b hb hv
      refine Ev.step (fun k => by rw [impl_IsOrder.l0]) ?_
      simp only [if_neg (nlt_self l), ordF]
      exact Ev.now _
    · intro p x s he ih b hb hv
      refine Ev.step (fun k => by rw [impl_IsOrder.l0]) ?_
      have hx : rd l (p.length : Int) = x := mid_get he 0
      have hp := mid_lt he
      simp only [if_pos hp, if_pos (nat_nn p.length), hx, impl_length_int64.f, w64 (x := (l.length : Int) - 1) (by omega) (by omega), inRange, Option.bind_some, mid_next he (by omega), ordF]
      cases hr : inR x 0 ((l.length : Int) - 1)
      · simp only [Bool.false_eq_true, if_false, Bool.false_and]
        exact Ev.now _
      · obtain ⟨h0, h1⟩ := inR_iff.1 hr
        have hg : rdOf false b x = decide (x ∈ p) := by
          have := hv x.toNat (by omega)
          rw [show ((x.toNat : Nat) : Int) = x by omega] at this
          rw [← this]
          rfl
        simp only [if_true, Bool.true_and, if_pos h0, if_pos (show x < (b.length : Int) by omega), hg]
        cases hd : decide (x ∈ p)
        · simp only [Bool.false_eq_true, if_false, Bool.not_false, Bool.true_and]
          refine ih (b.set x.toNat true) (by simpa using hb) (fun v hv' => ?_)
          have := hv v hv'
          simp only [List.getD_eq_getElem?_getD, List.getElem?_set, hb] at this ⊢
          by_cases e : x.toNat = v
          · simp [e, hv', show (v : Int) = x by omega]
          · simp only [if_neg e, List.mem_append, List.mem_singleton, this]
            simp [show ¬ (v : Int) = x by omega]
        · simp only [if_true, Bool.not_true, Bool.false_and]
          exact Ev.now _
theorem ordF_mem {n : Int} : ∀ (s seen : List Int), ordF n seen s = true → ∀ x ∈ s, 0 ≤ x ∧ x < n := by
  intro s
  induction s with
  | nil => intro seen _ x hx; cases hx
  | cons y s ih =>
    intro seen h x hx
    simp only [ordF, Bool.and_eq_true, inR_iff] at h
    rcases List.mem_cons.1 hx with rfl | hx
    · omega
    · exact ih _ h.2.2 x hx
theorem orderB_mem {l : List Int} (h : orderB l = true) {x : Int} (hx : x ∈ l) : 0 ≤ x ∧ x < (l.length : Int) := by
  simp only [orderB, Bool.and_eq_true] at h
  exact ordF_mem _ _ h.1 x hx
def flowB (l : List S62) : Bool := l.all okFlow && decide (l.length ≤ 7)
def flowCode (l : List S62) (o : List Int) : Int := if flowB l = true then (if orderB o = true then (if (o.length : Int) = (l.length : Int) then 0 else 2) else 2) else 1
theorem spec_flowCode (l : List S62) (o : List Int) (h : l.length ≤ 1048576) (ho : o.length ≤ 1048576) : Ev (fun k => spec_l21Code.f k l o) (flowCode l o) := by
  simp only [spec_l21Code.f]
  refine Ev.bind (a := flowB l) (spec_AreFlowJobs l h) ?_
  cases h1 : flowB l
  · simp only [Bool.false_eq_true, if_false]
    exact ev_eq (Ev.now _) (by simp [flowCode, h1])
  · simp only [if_true]
    refine Ev.bind (spec_IsOrder o ho) ?_
    cases h2 : orderB o <;> simp only [Bool.false_eq_true, if_false, if_true]
    · exact ev_eq (Ev.now _) (by simp [flowCode, h1, h2])
    · by_cases h3 : (o.length : Int) = (l.length : Int)
      · simp only [if_pos h3]
        exact ev_eq (Ev.now _) (by simp only [flowCode, h1, h2, if_true, if_pos h3])
      · simp only [if_neg h3]
        exact ev_eq (Ev.now _) (by simp only [flowCode, h1, h2, if_true, if_neg h3])
theorem impl_flowCode (l : List S62) (o : List Int) (h : l.length ≤ 1048576) (ho : o.length ≤ 1048576) : Ev (fun k => impl_checkFlow.f k l o) (flowCode l o) := by
  simp only [impl_checkFlow.f]
  refine Ev.bind (a := flowB l) (impl_AreFlowJobs l h) ?_
  cases h1 : flowB l
  · simp only [Bool.false_eq_true, if_false]
    exact ev_eq (Ev.now _) (by simp [flowCode, h1])
  · simp only [if_true]
    refine Ev.bind (impl_IsOrder o ho) ?_
    cases h2 : orderB o <;> simp only [Bool.false_eq_true, if_false, if_true]
    · exact ev_eq (Ev.now _) (by simp [flowCode, h1, h2])
    · by_cases h3 : (o.length : Int) = (l.length : Int)
      · simp only [if_pos h3]
        exact ev_eq (Ev.now _) (by simp only [flowCode, h1, h2, if_true, if_pos h3])
      · simp only [if_neg h3]
        exact ev_eq (Ev.now _) (by simp only [flowCode, h1, h2, if_true, if_neg h3])
theorem flowCode_zero {l : List S62} {o : List Int} (h : flowCode l o = 0) : flowB l = true ∧ orderB o = true ∧ o.length = l.length ∧ l.length ≤ 7 := by
  unfold flowCode at h
  by_cases h1 : flowB l = true <;> by_cases h2 : orderB o = true <;> by_cases h3 : (o.length : Int) = (l.length : Int) <;> simp [h1, h2, h3] at h
  refine ⟨h1, h2, by omega, ?_⟩
  simp only [flowB, Bool.and_eq_true, decide_eq_true_eq] at h1
  exact h1.2
theorem both_flowCode {α : Type} (l : List S62) (o : List Int) (h : l.length ≤ 1048576) (ho : o.length ≤ 1048576) (g g' : Nat → Option α) (e : Int → α) (hg : flowCode l o = 0 → ∃ r, Ev g r ∧ Ev g' r) :
    ∃ r, Ev (fun k => (spec_l21Code.f k l o).bind fun c => if c = 0 then g k else some (e c)) r ∧ Ev (fun k => (impl_checkFlow.f k l o).bind fun c => if c = 0 then g' k else some (e c)) r := by
  by_cases hc : flowCode l o = 0
  · obtain ⟨r, h1, h2⟩ := hg hc
    refine ⟨r, Ev.bind (spec_flowCode l o h ho) ?_, Ev.bind (impl_flowCode l o h ho) ?_⟩ <;> simp only [if_pos hc]
    · exact h1
    · exact h2
  · refine ⟨e (flowCode l o), Ev.bind (spec_flowCode l o h ho) ?_, Ev.bind (impl_flowCode l o h ho) ?_⟩ <;> simp only [if_neg hc] <;> exact Ev.now _
def sumI (f : Int → Int) : List Int → Int
  | [] => 0
  | x :: s => f x + sumI f s
def sumN (f : Int → Int) : Nat → Int
  | 0 => 0
  | n + 1 => sumN f n + f (n : Int)
theorem sumI_perm (f : Int → Int) {a b : List Int} (h : a.Perm b) : sumI f a = sumI f b := by
  induction h with
  | nil => rfl
  | cons x _ ih => simp only [sumI, ih]
  | swap x y l => simp only [sumI]; omega
  | trans _ _ h1 h2 => rw [h1, h2]
theorem sumI_snoc (f : Int → Int) (a : List Int) (x : Int) : sumI f (a ++ [x]) = sumI f a + f x := by
  induction a with
  | nil => simp [sumI]
  | cons y a ih => simp only [List.cons_append, sumI, ih]; omega
theorem ordF_nodup {n : Int} : ∀ (s seen : List Int), ordF n seen s = true → s.Nodup ∧ ∀ x ∈ s, x ∉ seen := by
  intro s
  induction s with
  | nil => intro seen _; exact ⟨List.nodup_nil, fun x hx => by cases hx⟩
  | cons y s ih =>
    intro seen h
    simp only [ordF, Bool.and_eq_true, Bool.not_eq_true', decide_eq_false_iff_not] at h
    obtain ⟨h1, h2⟩ := ih _ h.2.2
    refine ⟨List.nodup_cons.2 ⟨fun hy => h2 y hy (by simp), h1⟩, fun x hx => ?_⟩
    rcases List.mem_cons.1 hx with rfl | hx
    · exact h.2.1
    · intro hs; exact h2 x hx (by simp [hs])
theorem orderB_nodup {l : List Int} (h : orderB l = true) : l.Nodup := by
  simp only [orderB, Bool.and_eq_true] at h
  exact (ordF_nodup _ _ h.1).1
theorem nodup_short : ∀ (n : Nat) (o : List Int), o.Nodup → (∀ x ∈ o, 0 ≤ x ∧ x < (n : Int)) → o.length ≤ n := by
  intro n
  induction n with
  | zero =>
    intro o _ h
    cases o with
    | nil => simp
    | cons x o => have := h x (by simp); omega
  | succ n ih =>
    intro o hn h
    have h1 := ih (o.erase (n : Int)) (hn.erase _) (fun x hx => by
      have h1 := h x (List.mem_of_mem_erase hx)
      have h2 : x ≠ (n : Int) := fun e => by subst e; exact hn.not_mem_erase hx
      omega)
    have h2 := List.length_erase (a := (n : Int)) (l := o)
    split at h2 <;> omega
theorem sum_order : ∀ (n : Nat) (o : List Int) (f : Int → Int), o.Nodup → (∀ x ∈ o, 0 ≤ x ∧ x < (n : Int)) → o.length = n → sumI f o = sumN f n := by
  intro n
  induction n with
  | zero =>
    intro o f _ _ hl
    rw [List.eq_nil_of_length_eq_zero hl]
    rfl
  | succ n ih =>
    intro o f hn h hl
    have hm : (n : Int) ∈ o := by
      apply Decidable.byContradiction
      intro hm
      have := nodup_short n o hn (fun x hx => by
        have h1 := h x hx
        have h2 : x ≠ (n : Int) := fun e => by subst e; exact hm hx
        omega)
      omega
    rw [sumI_perm f (List.perm_cons_erase hm)]
    have := ih (o.erase (n : Int)) f (hn.erase _) (fun x hx => by
      have h1 := h x (List.mem_of_mem_erase hx)
      have h2 : x ≠ (n : Int) := fun e => by subst e; exact hn.not_mem_erase hx
      omega) (by rw [List.length_erase_of_mem hm]; omega)
    simp only [sumI, sumN, this]
    omega
theorem mxe (a b : Int) : mx a b = if a < b then b else a := rfl
/-- The time at which the second machine stops. -/
def endI (F G : Int → Int) : Int → Int → List Int → Int
  | _, b, [] => b
  | a, b, x :: t => endI F G (a + F x) (mx (a + F x) b + G x) t
def pathI (F G : Int → Int) : List Int → Int
  | [] => 0
  | x :: t => F x + mx (G x + sumI G t) (pathI F G t)
theorem endI_app (F G : Int → Int) : ∀ (q t : List Int) (a b : Int), endI F G a b (q ++ t) = endI F G (a + sumI F q) (endI F G a b q) t := by
  intro q
  induction q with
  | nil => intro t a b; simp [endI, sumI]
  | cons x q ih =>
    intro t a b
    simp only [List.cons_append, endI, sumI, ih]
    rw [show a + F x + sumI F q = a + (F x + sumI F q) by omega]
theorem endI_ge (F G : Int → Int) : ∀ (t : List Int) (a b : Int), (∀ x ∈ t, 0 ≤ F x ∧ 0 ≤ G x) → b ≤ endI F G a b t := by
  intro t
  induction t with
  | nil => intro a b _; exact Int.le_refl _
  | cons x t ih =>
    intro a b h
    have h0 := h x (by simp)
    have := ih (a + F x) (mx (a + F x) b + G x) (fun y hy => h y (by simp [hy]))
    have e := mxe (a + F x) b
    simp only [endI]
    split at e <;> omega
theorem endI_le (F G : Int → Int) (N : Int) : ∀ (t : List Int) (a b M : Int), (∀ x ∈ t, 0 ≤ F x ∧ F x ≤ N ∧ 0 ≤ G x ∧ G x ≤ N) → a ≤ M → b ≤ M → endI F G a b t ≤ M + 2 * N * (t.length : Int) := by
  intro t
  induction t with
  | nil => intro a b M _ _ h; simp only [endI, List.length_nil]; omega
  | cons x t ih =>
    intro a b M h ha hb
    have h0 := h x (by simp)
    have e := mxe (a + F x) b
    have := ih (a + F x) (mx (a + F x) b + G x) (M + 2 * N) (fun y hy => h y (by simp [hy])) (by omega) (by split at e <;> omega)
    simp only [endI, List.length_cons]
    rw [show ((t.length + 1 : Nat) : Int) = (t.length : Int) + 1 by omega, Int.mul_add, Int.mul_one]
    omega
theorem sumI_range (F : Int → Int) (N : Int) : ∀ (t : List Int), (∀ x ∈ t, 0 ≤ F x ∧ F x ≤ N) → 0 ≤ sumI F t ∧ sumI F t ≤ N * (t.length : Int) := by
  intro t
  induction t with
  | nil => intro _; simp [sumI]
  | cons x t ih =>
    intro h
    have h0 := h x (by simp)
    have := ih (fun y hy => h y (by simp [hy]))
    simp only [sumI, List.length_cons]
    rw [show ((t.length + 1 : Nat) : Int) = (t.length : Int) + 1 by omega, Int.mul_add, Int.mul_one]
    omega
theorem endI_path (F G : Int → Int) : ∀ (t : List Int) (a b : Int), (∀ x ∈ t, 0 ≤ F x ∧ 0 ≤ G x) → a ≤ b → endI F G a b t = mx (b + sumI G t) (a + pathI F G t) := by
  intro t
  induction t with
  | nil => intro a b _ h; simp only [endI, sumI, pathI, mxe]; split <;> omega
  | cons x t ih =>
    intro a b h hab
    have h0 := h x (by simp)
    have e := mxe (a + F x) b
    have e2 := mxe (G x + sumI G t) (pathI F G t)
    simp only [endI, sumI, pathI]
    rw [ih _ _ (fun y hy => h y (by simp [hy])) (by split at e <;> omega), mxe, mxe (b + (G x + sumI G t))]
    split at e <;> split at e2 <;> split <;> split <;> omega
theorem path_ge (F G : Int → Int) : ∀ (t : List Int), (∀ x ∈ t, 0 ≤ F x ∧ 0 ≤ G x) → sumI F t ≤ pathI F G t ∧ sumI G t ≤ pathI F G t := by
  intro t
  induction t with
  | nil => intro _; exact ⟨Int.le_refl _, Int.le_refl _⟩
  | cons x t ih =>
    intro h
    have h0 := h x (by simp)
    obtain ⟨h1, h2⟩ := ih (fun y hy => h y (by simp [hy]))
    have e2 := mxe (G x + sumI G t) (pathI F G t)
    simp only [sumI, pathI]
    split at e2 <;> omega
theorem path_snoc (F G : Int → Int) (x : Int) (h0 : 0 ≤ F x ∧ 0 ≤ G x) : ∀ (t : List Int), pathI F G (t ++ [x]) = mx (pathI F G t + G x) (sumI F t + F x + G x) := by
  intro t
  induction t with
  | nil => simp only [List.nil_append, pathI, sumI, mxe]; split <;> split <;> omega
  | cons y t ih =>
    simp only [List.cons_append, pathI, sumI, ih, sumI_snoc]
    simp only [mxe]
    split <;> split <;> split <;> (try split) <;> omega
theorem path_turn (F G : Int → Int) : ∀ (t : List Int), (∀ x ∈ t, 0 ≤ F x ∧ 0 ≤ G x) → pathI G F t.reverse = pathI F G t := by
  intro t
  induction t with
  | nil => intro _; rfl
  | cons x t ih =>
    intro h
    have h0 := h x (by simp)
    rw [List.reverse_cons, path_snoc G F x ⟨h0.2, h0.1⟩, ih (fun y hy => h y (by simp [hy])), sumI_perm G (List.reverse_perm t)]
    simp only [pathI, mxe]
    split <;> split <;> omega
theorem sumI_congr {F F' : Int → Int} : ∀ {t : List Int}, (∀ x ∈ t, F x = F' x) → sumI F t = sumI F' t := by
  intro t
  induction t with
  | nil => intro _; rfl
  | cons x t ih => intro h; simp only [sumI, h x (by simp), ih (fun y hy => h y (by simp [hy]))]
theorem endI_congr {F G F' G' : Int → Int} : ∀ {t : List Int} {a b : Int}, (∀ x ∈ t, F x = F' x ∧ G x = G' x) → endI F G a b t = endI F' G' a b t := by
  intro t
  induction t with
  | nil => intro a b _; rfl
  | cons x t ih =>
    intro a b h
    have h0 := h x (by simp)
    simp only [endI, h0.1, h0.2, ih (fun y hy => h y (by simp [hy]))]
/-- The turned flow ends when the flow does. -/
theorem endI_turn (F G : Int → Int) (t : List Int) (h : ∀ x ∈ t, 0 ≤ F x ∧ 0 ≤ G x) : endI G F 0 0 t.reverse = endI F G 0 0 t := by
  rw [endI_path G F t.reverse 0 0 (fun x hx => by have := h x (by simpa using hx); omega) (by omega), endI_path F G t 0 0 h (by omega), path_turn F G t h, sumI_perm F (List.reverse_perm t)]
  obtain ⟨h1, h2⟩ := path_ge F G t h
  simp only [mxe]
  split <;> split <;> omega
theorem endI_sum (F G : Int → Int) (t : List Int) (h : ∀ x ∈ t, 0 ≤ F x ∧ 0 ≤ G x) : sumI G t ≤ endI F G 0 0 t := by
  rw [endI_path F G t 0 0 h (by omega), mxe]
  split <;> omega
theorem ordF_of {n : Int} : ∀ (s seen : List Int), s.Nodup → (∀ x ∈ s, x ∉ seen) → (∀ x ∈ s, 0 ≤ x ∧ x < n) → ordF n seen s = true := by
  intro s
  induction s with
  | nil => intro seen _ _ _; rfl
  | cons y s ih =>
    intro seen hn hs hr
    obtain ⟨h1, h2⟩ := List.nodup_cons.1 hn
    have h3 := hr y (by simp)
    simp only [ordF, Bool.and_eq_true, Bool.not_eq_true', decide_eq_false_iff_not, inR_iff]
    refine ⟨by omega, hs y (by simp), ih _ h2 (fun x hx => ?_) (fun x hx => hr x (by simp [hx]))⟩
    intro hm
    rcases List.mem_append.1 hm with hm | hm
    · exact hs x (by simp [hx]) hm
    · have : x = y := by simpa using hm
      subst this; exact h1 hx
theorem orderB_rev {o : List Int} (h : orderB o = true) : orderB o.reverse = true := by
  have hn := orderB_nodup h
  have hm := fun x hx => orderB_mem h (x := x) hx
  simp only [orderB, Bool.and_eq_true, decide_eq_true_eq] at h ⊢
  refine ⟨ordF_of _ _ ?_ (fun x hx => by simp) (fun x hx => ?_), by simpa using h.2⟩
  · exact (List.reverse_perm o).nodup_iff.2 hn
  · have := hm x (by simpa using hx)
    simpa using this
def fF (l : List S62) (i : Int) : Int := (rd_T62 l i).f0
def fG (l : List S62) (i : Int) : Int := (rd_T62 l i).f1
theorem flow_ok {l : List S62} (h : flowB l = true) {i : Int} (h0 : 0 ≤ i) (h1 : i < (l.length : Int)) : 0 ≤ fF l i ∧ fF l i ≤ 100000 ∧ 0 ≤ fG l i ∧ fG l i ≤ 100000 := by
  simp only [flowB, Bool.and_eq_true, List.all_eq_true] at h
  have hm : rd_T62 l i ∈ l := by
    have : i.toNat < l.length := by omega
    unfold rd_T62
    rw [List.getD_eq_getElem?_getD, List.getElem?_eq_getElem this]
    exact List.getElem_mem this
  have := h.1 _ hm
  simp only [okFlow, Bool.and_eq_true, inR_iff] at this
  unfold fF fG
  omega
theorem rd_L4_set {d : List (List Int)} {i x : Int} {v : List Int} (hi : 0 ≤ i) (hx : 0 ≤ x) (hxl : x < (d.length : Int)) : rd_L4 (d.set x.toNat v) i = if i = x then v else rd_L4 d i := by
  unfold rd_L4
  simp only [List.getD_eq_getElem?_getD, List.getElem?_set]
  by_cases e : x.toNat = i.toNat
  · rw [if_pos e, if_pos (show i = x by omega), if_pos (show x.toNat < d.length by omega)]; simp
  · rw [if_neg e, if_neg (show ¬ i = x by omega)]
theorem snoc_split {α : Type} {p q t : List α} {x y : α} (h : p ++ [x] = q ++ y :: t) : (t = [] ∧ p = q ∧ x = y) ∨ ∃ t', t = t' ++ [x] ∧ p = q ++ y :: t' := by
  rcases nil_or_snoc t with rfl | ⟨t', z, rfl⟩
  · have := List.append_inj' h rfl
    exact Or.inl ⟨rfl, this.1, by simpa using this.2⟩
  · have h' : p ++ [x] = (q ++ y :: t') ++ [z] := by simpa using h
    have := List.append_inj' h' rfl
    have hz : x = z := by simpa using this.2
    subst hz
    exact Or.inr ⟨t', rfl, this.1⟩
theorem flow_told {l : List S62} {o : List Int} (hc : flowCode l o = 0) : ∃ r : List (List Int), Ev (fun k => spec_l21Starts.f k l o) (r, endI (fF l) (fG l) 0 0 o) ∧ Ev (fun k => impl_flow.f k l o) (r, endI (fF l) (fG l) 0 0 o) ∧ r.length = l.length ∧ (∀ y ∈ r, y.length ≤ 2) ∧
    ∀ q y t, o = q ++ y :: t → rd_L4 r y = [sumI (fF l) q, mx (sumI (fF l) q + fF l y) (endI (fF l) (fG l) 0 0 q)] := by
  obtain ⟨hf, hb, hol, hl7⟩ := flowCode_zero hc
  have hn := orderB_nodup hb
  have hm : ∀ x ∈ o, 0 ≤ x ∧ x < (l.length : Int) := fun x hx => by rw [← hol]; exact orderB_mem hb hx
  have hok : ∀ x ∈ o, 0 ≤ fF l x ∧ fF l x ≤ 100000 ∧ 0 ≤ fG l x ∧ fG l x ≤ 100000 := fun x hx => flow_ok hf (hm x hx).1 (hm x hx).2
  simp only [spec_l21Starts.f, impl_flow.f, if_pos (nat_nn l.length), Int.toNat_natCast, if_pos (show l.length ≤ 11728124029610 by omega)]
  refine loop_list o (fun p s => ∀ (x6 : List (List Int)), x6.length = l.length → (∀ y ∈ x6, y.length ≤ 2) → (∀ q y t, p = q ++ y :: t → rd_L4 x6 y = [sumI (fF l) q, mx (sumI (fF l) q + fF l y) (endI (fF l) (fG l) 0 0 q)]) → o = p ++ s →
    ∃ r : List (List Int), Ev (fun k => spec_l21Starts.l0 k l o x6 (sumI (fF l) p) (endI (fF l) (fG l) 0 0 p) (p.length : Int)) (r, endI (fF l) (fG l) 0 0 o) ∧ Ev (fun k => impl_flow.l0 k l x6 (sumI (fF l) p) (endI (fF l) (fG l) 0 0 p) o (o.length : Int) (p.length : Int)) (r, endI (fF l) (fG l) 0 0 o) ∧ r.length = l.length ∧ (∀ y ∈ r, y.length ≤ 2) ∧
    ∀ q y t, o = q ++ y :: t → rd_L4 r y = [sumI (fF l) q, mx (sumI (fF l) q + fF l y) (endI (fF l) (fG l) 0 0 q)]) ?_ ?_ (List.replicate l.length []) (by simp) (by intro y hy; have := List.eq_of_mem_replicate hy; subst this; simp) (by intro q y t h; simp at h) rfl
  · intro x6 h6 h2 hs _
    refine ⟨x6, Ev.step (fun k => by rw [spec_l21Starts.l0]) ?_, Ev.step (fun k => by rw [impl_flow.l0]) ?_, h6, h2, hs⟩ <;> simp only [if_neg (nlt_self o)] <;> exact Ev.now _
  · intro p x s he ih x6 h6 h2 hs ho
    have hx : rd o (p.length : Int) = x := mid_get he 0
    have hxr := hm x (by rw [he]; simp)
    have hp := mid_lt he
    have hpo : ∀ y ∈ p, y ∈ o := fun y hy => by rw [he]; simp [hy]
    obtain ⟨j0, j1, j2, j3⟩ := hok x (by rw [he]; simp)
    obtain ⟨a0, a1⟩ := sumI_range (fF l) 100000 p (fun y hy => by have := hok y (hpo y hy); omega)
    have b0 := endI_ge (fF l) (fG l) p 0 0 (fun y hy => by have := hok y (hpo y hy); omega)
    have b1 := endI_le (fF l) (fG l) 100000 p 0 0 0 (fun y hy => hok y (hpo y hy)) (by omega) (by omega)
    have e1 : wrap64 (sumI (fF l) p + (rd_T62 l x).f0) = sumI (fF l) p + fF l x := w64 (by show _ ≤ sumI (fF l) p + fF l x; omega) (by show sumI (fF l) p + fF l x ≤ _; omega)
    have em := mxe (sumI (fF l) p + fF l x) (endI (fF l) (fG l) 0 0 p)
    have e2 : wrap64 (mx (sumI (fF l) p + fF l x) (endI (fF l) (fG l) 0 0 p) + (rd_T62 l x).f1) = mx (sumI (fF l) p + fF l x) (endI (fF l) (fG l) 0 0 p) + fG l x := by
      apply w64
      · show _ ≤ mx (sumI (fF l) p + fF l x) (endI (fF l) (fG l) 0 0 p) + fG l x
        split at em <;> omega
      · show mx (sumI (fF l) p + fF l x) (endI (fF l) (fG l) 0 0 p) + fG l x ≤ _
        split at em <;> omega
    have s1 : sumI (fF l) (p ++ [x]) = sumI (fF l) p + fF l x := sumI_snoc _ _ _
    have s2 : endI (fF l) (fG l) 0 0 (p ++ [x]) = mx (sumI (fF l) p + fF l x) (endI (fF l) (fG l) 0 0 p) + fG l x := by
      rw [endI_app]; simp only [endI, Int.zero_add]
    obtain ⟨r, h1, h2', h3⟩ := ih (x6.set x.toNat [sumI (fF l) p, mx (sumI (fF l) p + fF l x) (endI (fF l) (fG l) 0 0 p)]) (by simpa using h6) (by
      intro y hy
      rcases List.mem_or_eq_of_mem_set hy with hy | rfl
      · exact h2 y hy
      · simp) (by
      intro q y t hq
      rcases snoc_split hq with ⟨_, rfl, rfl⟩ | ⟨t', rfl, hp'⟩
      · rw [rd_L4_set hxr.1 hxr.1 (by omega), if_pos rfl]
      · have hy : y ∈ o := hpo y (by rw [hp']; simp)
        have hne : y ≠ x := by
          intro e
          subst e
          rw [he] at hn
          have := (List.nodup_append.1 hn).2.2
          exact this y (by rw [hp']; simp) y (by simp) rfl
        rw [rd_L4_set (hm y hy).1 hxr.1 (by omega), if_neg hne]
        exact hs q y t' hp') (by rw [he]; simp)
    rw [s1, s2] at h1 h2'
    refine ⟨r, Ev.step (fun k => by rw [spec_l21Starts.l0]) ?_, Ev.step (fun k => by rw [impl_flow.l0]) ?_, h3⟩ <;> simp only [if_pos hp, if_pos (nat_nn p.length), hx, if_pos hxr.1, if_pos hxr.2, if_pos (show x < (x6.length : Int) by omega), mid_next he (by omega), e1, e2]
    · exact h1
    · exact h2'
theorem insF_perm (lt : Int → Int → Bool) (x : Int) : ∀ p, (insF lt x p).Perm (x :: p) := by
  intro p
  induction p with
  | nil => exact List.Perm.refl _
  | cons y p ih =>
    simp only [insF]
    split
    · exact List.Perm.refl _
    · exact (List.Perm.cons y ih).trans (List.Perm.swap x y p)
theorem sortF_nodup (lt : Int → Int → Bool) (n : Nat) : (sortF lt n).Nodup := by
  induction n with
  | zero => exact List.nodup_nil
  | succ n ih =>
    refine (insF_perm lt (n : Int) (sortF lt n)).nodup_iff.2 (List.nodup_cons.2 ⟨fun h => ?_, ih⟩)
    have := sortF_mem h
    omega
theorem sortF_orderB (lt : Int → Int → Bool) (n : Nat) (h : n ≤ 64) : orderB (sortF lt n) = true := by
  simp only [orderB, Bool.and_eq_true, decide_eq_true_eq, sortF_length]
  exact ⟨ordF_of _ _ (sortF_nodup lt n) (fun x hx => by simp) (fun x hx => sortF_mem hx), h⟩
theorem order_perm (lt : Int → Int → Bool) : ∀ (n : Nat) (o : List Int), o.Nodup → (∀ x ∈ o, 0 ≤ x ∧ x < (n : Int)) → o.length = n → o.Perm (sortF lt n) := by
  intro n
  induction n with
  | zero =>
    intro o _ _ hl
    rw [List.eq_nil_of_length_eq_zero hl]
    exact List.Perm.refl _
  | succ n ih =>
    intro o hn h hl
    have hm : (n : Int) ∈ o := by
      apply Decidable.byContradiction
      intro hm
      have := nodup_short n o hn (fun x hx => by
        have h1 := h x hx
        have h2 : x ≠ (n : Int) := fun e => by subst e; exact hm hx
        omega)
      omega
    have := ih (o.erase (n : Int)) (hn.erase _) (fun x hx => by
      have h1 := h x (List.mem_of_mem_erase hx)
      have h2 : x ≠ (n : Int) := fun e => by subst e; exact hn.not_mem_erase hx
      omega) (by rw [List.length_erase_of_mem hm]; omega)
    exact (List.perm_cons_erase hm).trans ((List.Perm.cons _ this).trans (insF_perm lt (n : Int) (sortF lt n)).symm)
/-- The rule of two neighbours: the first of them need not stand behind the second. -/
def goodP (F G : Int → Int) (x y : Int) : Prop := (F x ≤ F y ∨ G y ≤ F y) ∧ (F x ≤ G x ∨ G y ≤ G x)
theorem path_mono (F G : Int → Int) (a : Int) {r r' : List Int} (hs : sumI G r = sumI G r') (hp : pathI F G r ≤ pathI F G r') : pathI F G (a :: r) ≤ pathI F G (a :: r') := by
  simp only [pathI, mxe, hs]
  split <;> split <;> omega
theorem path_swap (F G : Int → Int) (x y : Int) (r : List Int) (h : goodP F G x y) : pathI F G (x :: y :: r) ≤ pathI F G (y :: x :: r) := by
  obtain ⟨h1, h2⟩ := h
  have a1 := mxe (G y + sumI G r) (pathI F G r)
  have a2 := mxe (G x + (G y + sumI G r)) (F y + mx (G y + sumI G r) (pathI F G r))
  have b1 := mxe (G x + sumI G r) (pathI F G r)
  have b2 := mxe (G y + (G x + sumI G r)) (F x + mx (G x + sumI G r) (pathI F G r))
  simp only [pathI, sumI]
  split at a1 <;> split at a2 <;> split at b1 <;> split at b2 <;> omega
theorem path_front (F G : Int → Int) (x : Int) (v : List Int) : ∀ u : List Int, (∀ w ∈ u, goodP F G x w) → pathI F G (x :: (u ++ v)) ≤ pathI F G (u ++ x :: v) := by
  intro u
  induction u with
  | nil => intro _; exact Int.le_refl _
  | cons a u ih =>
    intro h
    have s1 := path_swap F G x a (u ++ v) (h a (by simp))
    have s2 := path_mono F G a (sumI_perm G List.perm_middle.symm : sumI G (x :: (u ++ v)) = sumI G (u ++ x :: v)) (ih (fun w hw => h w (by simp [hw])))
    exact Int.le_trans s1 s2
theorem path_least (F G : Int → Int) : ∀ (s t : List Int), t.Perm s → (∀ u y v, s = u ++ y :: v → ∀ z ∈ v, goodP F G y z) → pathI F G s ≤ pathI F G t := by
  intro s
  induction s with
  | nil => intro t h _; rw [h.eq_nil]; exact Int.le_refl _
  | cons x s ih =>
    intro t h hs
    obtain ⟨u, v, rfl⟩ := List.append_of_mem (h.mem_iff.2 (List.mem_cons_self) : x ∈ t)
    have hp : (u ++ v).Perm s := (List.perm_middle.symm.trans h).cons_inv
    have h1 := ih (u ++ v) hp (fun a y b e => hs (x :: a) y b (by rw [e]; rfl))
    have h2 := path_front F G x v u (fun w hw => hs [] x s rfl w (hp.mem_iff.1 (by simp [hw])))
    exact Int.le_trans (path_mono F G x (sumI_perm G hp.symm) h1) h2
theorem end_least (F G : Int → Int) {s t : List Int} (h : t.Perm s) (hs : ∀ u y v, s = u ++ y :: v → ∀ z ∈ v, goodP F G y z) (hp : ∀ x ∈ s, 0 ≤ F x ∧ 0 ≤ G x) : endI F G 0 0 s ≤ endI F G 0 0 t := by
  have := path_least F G s t h hs
  have e := sumI_perm G h
  rw [endI_path F G s 0 0 hp (by omega), endI_path F G t 0 0 (fun x hx => hp x (h.mem_iff.1 hx)) (by omega), mxe, mxe]
  split <;> split <;> omega
theorem end_first (F G : Int → Int) {x : Int} {t : List Int} (hp : ∀ y ∈ x :: t, 0 ≤ F y ∧ 0 ≤ G y) : F x + sumI G (x :: t) ≤ endI F G 0 0 (x :: t) := by
  rw [endI_path F G (x :: t) 0 0 hp (by omega)]
  simp only [pathI, sumI, mxe]
  split <;> split <;> omega
theorem end_last (F G : Int → Int) {x : Int} {t : List Int} (hp : ∀ y ∈ t ++ [x], 0 ≤ F y ∧ 0 ≤ G y) : sumI F (t ++ [x]) + G x ≤ endI F G 0 0 (t ++ [x]) := by
  have h0 := hp x (by simp)
  rw [endI_path F G (t ++ [x]) 0 0 hp (by omega), path_snoc F G x h0, sumI_snoc]
  simp only [mxe]
  split <;> split <;> omega
theorem key_cases {l : List S62} (hf : flowB l = true) {i : Int} (h0 : 0 ≤ i) (h1 : i < (l.length : Int)) : (fF l i < fG l i ∧ keyA (rd_T62 l i) = 0 ∧ keyB (rd_T62 l i) = fF l i) ∨ (fG l i ≤ fF l i ∧ keyA (rd_T62 l i) = 1 ∧ keyB (rd_T62 l i) = - fG l i) := by
  have h := flow_ok hf h0 h1
  unfold fF fG at h ⊢
  unfold keyA keyB
  by_cases c : (rd_T62 l i).f0 < (rd_T62 l i).f1
  · exact Or.inl ⟨c, if_pos c, if_pos c⟩
  · exact Or.inr ⟨by omega, if_neg c, by rw [if_neg c]; exact w64 (by omega) (by omega)⟩
theorem two_good {l : List S62} (hf : flowB l = true) : ∀ u y v, sortF (ltT l) l.length = u ++ y :: v → ∀ z ∈ v, goodP (fF l) (fG l) y z := by
  intro u y v e z hz
  have hs := sortF_srtd (ltT_O l) (ltT_A l) l.length u y v e z hz
  have hy : y ∈ sortF (ltT l) l.length := by rw [e]; simp
  have hzm : z ∈ sortF (ltT l) l.length := by rw [e]; simp [hz]
  have r1 := sortF_mem hy
  have r2 := sortF_mem hzm
  have k1 := key_cases hf r1.1 r1.2
  have k2 := key_cases hf r2.1 r2.2
  simp only [ltT, ltX] at hs
  unfold goodP
  split at hs <;> simp only [decide_eq_false_iff_not] at hs <;> omega
theorem two_code {l : List S62} (hf : flowB l = true) : flowCode l (sortF (ltT l) l.length) = 0 := by
  have h7 : l.length ≤ 7 := by
    simp only [flowB, Bool.and_eq_true, decide_eq_true_eq] at hf
    exact hf.2
  unfold flowCode
  rw [if_pos hf, if_pos (sortF_orderB _ _ (by omega)), if_pos (by rw [sortF_length])]
/-- No order of flow jobs ends before the two-part order. -/
theorem two_least {l : List S62} {o : List Int} (hc : flowCode l o = 0) : endI (fF l) (fG l) 0 0 (sortF (ltT l) l.length) ≤ endI (fF l) (fG l) 0 0 o := by
  obtain ⟨hf, hb, hol, hl7⟩ := flowCode_zero hc
  have hp := order_perm (ltT l) l.length o (orderB_nodup hb) (fun x hx => by rw [← hol]; exact orderB_mem hb hx) hol
  exact end_least _ _ hp (two_good hf) (fun x hx => by
    have := sortF_mem hx
    have := flow_ok hf this.1 this.2
    omega)
theorem flowB_ok {l : List S62} (hf : flowB l = true) : (∀ x ∈ l, okFlow x = true) ∧ l.length ≤ 7 := by
  simp only [flowB, Bool.and_eq_true, decide_eq_true_eq, List.all_eq_true] at hf
  exact hf
theorem both_LeastMakespan (l : List S62) (h : l.length ≤ 1048576) : ∃ r : Int × Int, Ev (fun k => spec_LeastMakespan.f k l) r ∧ Ev (fun k => impl_LeastMakespan.f k l) r ∧ r = if flowB l = true then (endI (fF l) (fG l) 0 0 (sortF (ltT l) l.length), 0) else (0, 1) := by
  simp only [spec_LeastMakespan.f, impl_LeastMakespan.f]
  cases hc : flowB l
  · exact ⟨(0, 1), Ev.bind (ev_eq (spec_AreFlowJobs l h) hc) (by simp only [Bool.false_eq_true, if_false]; exact Ev.now _), Ev.bind (ev_eq (impl_AreFlowJobs l h) hc) (by simp only [Bool.false_eq_true, if_false]; exact Ev.now _), by simp⟩
  · obtain ⟨r, h1, h2, _⟩ := flow_told (two_code hc)
    obtain ⟨hok, h7⟩ := flowB_ok hc
    refine ⟨(endI (fF l) (fG l) 0 0 (sortF (ltT l) l.length), 0), Ev.bind (ev_eq (spec_AreFlowJobs l h) hc) ?_, Ev.bind (ev_eq (impl_AreFlowJobs l h) hc) ?_, by simp⟩
    · simp only [if_true]
      exact Ev.bind (spec_two l (by omega)) (Ev.bind h1 (Ev.now _))
    · simp only [if_true, impl_twoPartOrder.f]
      exact Ev.bind (Ev.bind (sorted_impl_twoPartOrder_1 (cmp_two l hok) (ltT_O l) (ltT_A l) h7) (Ev.now _)) (Ev.bind h2 (Ev.now _))
def addF (s : List S62) (a : Int) : Int := s.foldl (fun a x => wrap64 (a + x.f0)) a
def addG (s : List S62) (a : Int) : Int := s.foldl (fun a x => wrap64 (a + x.f1)) a
def minF (s : List S62) (a : Int) : Int := s.foldl (fun a x => mn a x.f0) a
def minG (s : List S62) (a : Int) : Int := s.foldl (fun a x => mn a x.f1) a
theorem spec_bound (l : List S62) (h : l.length ≤ 1048576) (a b c d : Int) : Ev (fun k => spec_FlowBound.l0 k l a b c d 0) (mx (wrap64 (addF l a + minG l d)) (wrap64 (addG l b + minF l c)), 0) := by
  refine loop_list l (fun p s => ∀ a b c d, Ev (fun k => spec_FlowBound.l0 k l a b c d (p.length : Int)) (mx (wrap64 (addF s a + minG s d)) (wrap64 (addG s b + minF s c)), 0)) ?_ ?_ a b c d
  · intro a b c d
    refine Ev.step (fun k => by rw [spec_FlowBound.l0]) ?_
    simp only [if_neg (nlt_self l), addF, addG, minF, minG, List.foldl_nil]
    exact Ev.now _
  · intro p x s he ih a b c d
    refine Ev.step (fun k => by rw [spec_FlowBound.l0]) ?_
    simp only [if_pos (mid_lt he), if_pos (nat_nn p.length), rd_T62, mid_get he, mid_next he (by omega)]
    exact ih _ _ _ _
theorem impl_sums (l : List S62) (h : l.length ≤ 1048576) : Ev (fun k => impl_sums.f k l) (addF l 0, addG l 0) := by
  simp only [impl_sums.f]
  refine loop_list l (fun p s => ∀ a b, Ev (fun k => impl_sums.l0 k a b l (l.length : Int) (p.length : Int)) (addF s a, addG s b)) ?_ ?_ 0 0
  · intro a b
    refine Ev.step (fun k => by rw [impl_sums.l0]) ?_
    simp only [if_neg (nlt_self l), addF, addG, List.foldl_nil]
    exact Ev.now _
  · intro p x s he ih a b
    refine Ev.step (fun k => by rw [impl_sums.l0]) ?_
    simp only [if_pos (mid_lt he), if_pos (nat_nn p.length), rd_T62, mid_get he, mid_next he (by omega)]
    exact ih _ _
theorem impl_bound (l : List S62) (h : l.length ≤ 1048576) (a b c d : Int) : Ev (fun k => impl_FlowBound.l0 k a b l (l.length : Int) 0 c d) (mx (wrap64 (a + minG l d)) (wrap64 (b + minF l c)), 0) := by
  refine loop_list l (fun p s => ∀ c d, Ev (fun k => impl_FlowBound.l0 k a b l (l.length : Int) (p.length : Int) c d) (mx (wrap64 (a + minG s d)) (wrap64 (b + minF s c)), 0)) ?_ ?_ c d
  · intro c d
    refine Ev.step (fun k => by rw [impl_FlowBound.l0]) ?_
    simp only [if_neg (nlt_self l), minF, minG, List.foldl_nil]
    exact Ev.now _
  · intro p x s he ih c d
    refine Ev.step (fun k => by rw [impl_FlowBound.l0]) ?_
    simp only [if_pos (mid_lt he), if_pos (nat_nn p.length), rd_T62, mid_get he, mid_next he (by omega)]
    exact ih _ _
theorem sumN_range {N : Int} (f : Int → Int) : ∀ n : Nat, (∀ i : Nat, i < n → 0 ≤ f (i : Int) ∧ f (i : Int) ≤ N) → 0 ≤ sumN f n ∧ sumN f n ≤ N * (n : Int) := by
  intro n
  induction n with
  | zero => intro _; simp [sumN]
  | succ n ih =>
    intro h
    have := ih (fun i hi => h i (by omega))
    have := h n (by omega)
    simp only [sumN]
    rw [show ((n + 1 : Nat) : Int) = (n : Int) + 1 by omega, Int.mul_add, Int.mul_one]
    omega
theorem add_told {l : List S62} (hf : flowB l = true) : addF l 0 = sumN (fF l) l.length ∧ addG l 0 = sumN (fG l) l.length := by
  obtain ⟨_, h7⟩ := flowB_ok hf
  have hR : ∀ n : Nat, n ≤ l.length → (0 ≤ sumN (fF l) n ∧ sumN (fF l) n ≤ 100000 * (n : Int)) ∧ (0 ≤ sumN (fG l) n ∧ sumN (fG l) n ≤ 100000 * (n : Int)) := fun n hn =>
    ⟨sumN_range _ n (fun i hi => by have := flow_ok hf (i := (i : Int)) (by omega) (by omega); omega), sumN_range _ n (fun i hi => by have := flow_ok hf (i := (i : Int)) (by omega) (by omega); omega)⟩
  refine loop_list l (fun p s => addF s (sumN (fF l) p.length) = sumN (fF l) l.length ∧ addG s (sumN (fG l) p.length) = sumN (fG l) l.length) ?_ ?_
  · exact ⟨rfl, rfl⟩
  · intro p x s he ih
    have hp := mid_lt he
    have hx : rd_T62 l (p.length : Int) = x := by unfold rd_T62; exact mid_get he _
    have r1 := hR (p.length + 1) (by omega)
    have e1 : sumN (fF l) (p.length + 1) = sumN (fF l) p.length + x.f0 := by rw [← hx]; rfl
    have e2 : sumN (fG l) (p.length + 1) = sumN (fG l) p.length + x.f1 := by rw [← hx]; rfl
    rw [show (p ++ [x]).length = p.length + 1 by simp] at ih
    have w1 : wrap64 (sumN (fF l) p.length + x.f0) = sumN (fF l) (p.length + 1) := by rw [e1]; exact w64 (by omega) (by omega)
    have w2 : wrap64 (sumN (fG l) p.length + x.f1) = sumN (fG l) (p.length + 1) := by rw [e2]; exact w64 (by omega) (by omega)
    refine ⟨?_, ?_⟩
    · show addF s (wrap64 (sumN (fF l) p.length + x.f0)) = _
      rw [w1]; exact ih.1
    · show addG s (wrap64 (sumN (fG l) p.length + x.f1)) = _
      rw [w2]; exact ih.2
theorem mne (a b : Int) : mn a b = if b < a then b else a := rfl
theorem min_told (s : List S62) : ∀ a : Int, (0 ≤ a → (∀ x ∈ s, 0 ≤ x.f0) → 0 ≤ minF s a) ∧ minF s a ≤ a ∧ ∀ x ∈ s, minF s a ≤ x.f0 := by
  induction s with
  | nil => intro a; exact ⟨fun h _ => h, Int.le_refl _, fun x hx => by cases hx⟩
  | cons y s ih =>
    intro a
    obtain ⟨i1, i2, i3⟩ := ih (mn a y.f0)
    have e := mne a y.f0
    have e0 : minF (y :: s) a = minF s (mn a y.f0) := rfl
    rw [e0]
    refine ⟨fun h h' => i1 ?_ (fun x hx => h' x (by simp [hx])), ?_, fun x hx => ?_⟩
    · have := h' y (by simp); split at e <;> omega
    · split at e <;> omega
    · rcases List.mem_cons.1 hx with rfl | hx
      · split at e <;> omega
      · exact i3 x hx
theorem min_told' (s : List S62) : ∀ a : Int, (0 ≤ a → (∀ x ∈ s, 0 ≤ x.f1) → 0 ≤ minG s a) ∧ minG s a ≤ a ∧ ∀ x ∈ s, minG s a ≤ x.f1 := by
  induction s with
  | nil => intro a; exact ⟨fun h _ => h, Int.le_refl _, fun x hx => by cases hx⟩
  | cons y s ih =>
    intro a
    obtain ⟨i1, i2, i3⟩ := ih (mn a y.f1)
    have e := mne a y.f1
    have e0 : minG (y :: s) a = minG s (mn a y.f1) := rfl
    rw [e0]
    refine ⟨fun h h' => i1 ?_ (fun x hx => h' x (by simp [hx])), ?_, fun x hx => ?_⟩
    · have := h' y (by simp); split at e <;> omega
    · split at e <;> omega
    · rcases List.mem_cons.1 hx with rfl | hx
      · split at e <;> omega
      · exact i3 x hx
theorem rd_flow_mem {l : List S62} {i : Int} (h0 : 0 ≤ i) (h1 : i < (l.length : Int)) : rd_T62 l i ∈ l := by
  have : i.toNat < l.length := by omega
  unfold rd_T62
  rw [List.getD_eq_getElem?_getD, List.getElem?_eq_getElem this]
  exact List.getElem_mem this
theorem both_bound (l : List S62) (h : l.length ≤ 1048576) : ∃ r : Int × Int, Ev (fun k => spec_FlowBound.f k l) r ∧ Ev (fun k => impl_FlowBound.f k l) r ∧ r.2 = (if flowB l = true then 0 else 1) ∧ (flowB l = true → r.1 ≤ endI (fF l) (fG l) 0 0 (sortF (ltT l) l.length)) := by
  simp only [spec_FlowBound.f, impl_FlowBound.f]
  cases hc : flowB l
  · exact ⟨(0, 1), Ev.bind (ev_eq (spec_AreFlowJobs l h) hc) (by simp only [Bool.false_eq_true, if_false]; exact Ev.now _), Ev.bind (ev_eq (impl_AreFlowJobs l h) hc) (by simp only [Bool.false_eq_true, if_false]; exact Ev.now _), by simp, fun h => by cases h⟩
  · have hp : ∀ x ∈ sortF (ltT l) l.length, 0 ≤ fF l x ∧ 0 ≤ fG l x := fun x hx => by
      have := sortF_mem hx
      have := flow_ok hc this.1 this.2
      omega
    obtain ⟨hok, h7⟩ := flowB_ok hc
    by_cases h0 : (l.length : Int) = 0
    · refine ⟨(0, 0), Ev.bind (ev_eq (spec_AreFlowJobs l h) hc) (by simp only [if_true, if_pos h0]; exact Ev.now _), Ev.bind (ev_eq (impl_AreFlowJobs l h) hc) (by simp only [if_true, if_pos h0]; exact Ev.now _), rfl, fun _ => ?_⟩
      exact endI_ge _ _ _ 0 0 hp
    · refine ⟨(mx (wrap64 (addF l 0 + minG l (rd_T62 l 0).f1)) (wrap64 (addG l 0 + minF l (rd_T62 l 0).f0)), 0), Ev.bind (ev_eq (spec_AreFlowJobs l h) hc) ?_, Ev.bind (ev_eq (impl_AreFlowJobs l h) hc) ?_, rfl, fun _ => ?_⟩
      · simp only [if_true, if_neg h0, if_pos (show 0 < (l.length : Int) by omega)]
        exact spec_bound l h _ _ _ _
      · simp only [if_true, if_neg h0]
        refine Ev.bind (impl_sums l h) ?_
        simp only [if_pos (show 0 < (l.length : Int) by omega)]
        exact impl_bound l h _ _ _ _
      · obtain ⟨a1, a2⟩ := add_told hc
        rw [a1, a2]
        obtain ⟨m1, m2, m3⟩ := min_told l (rd_T62 l 0).f0
        obtain ⟨q1, q2, q3⟩ := min_told' l (rd_T62 l 0).f1
        obtain ⟨z0, z1, z2, z3⟩ := flow_ok hc (i := 0) (by omega) (by omega)
        have hk : ∀ x ∈ l, (0 ≤ x.f0 ∧ x.f0 ≤ 100000) ∧ (0 ≤ x.f1 ∧ x.f1 ≤ 100000) := fun x hx => by
          have := hok x hx
          simpa only [okFlow, Bool.and_eq_true, inR_iff] using this
        have m0 := m1 z0 (fun x hx => (hk x hx).1.1)
        have q0 := q1 z2 (fun x hx => (hk x hx).2.1)
        have sF := sumN_range (fF l) l.length (N := 100000) (fun i hi => by have := flow_ok hc (i := (i : Int)) (by omega) (by omega); omega)
        have sG := sumN_range (fG l) l.length (N := 100000) (fun i hi => by have := flow_ok hc (i := (i : Int)) (by omega) (by omega); omega)
        have m4 : minF l (rd_T62 l 0).f0 ≤ 100000 := Int.le_trans m2 z1
        have q4 : minG l (rd_T62 l 0).f1 ≤ 100000 := Int.le_trans q2 z3
        have eF := sum_order l.length (sortF (ltT l) l.length) (fF l) (sortF_nodup _ _) (fun x hx => sortF_mem hx) (sortF_length _ _)
        have eG := sum_order l.length (sortF (ltT l) l.length) (fG l) (sortF_nodup _ _) (fun x hx => sortF_mem hx) (sortF_length _ _)
        rw [w64 (by omega) (by omega), w64 (by omega) (by omega), mxe]
        have f1 : sumN (fG l) l.length + minF l (rd_T62 l 0).f0 ≤ endI (fF l) (fG l) 0 0 (sortF (ltT l) l.length) := by
          rw [← eG]
          have hne : (sortF (ltT l) l.length).length = l.length := sortF_length _ _
          cases hs : sortF (ltT l) l.length with
          | nil => rw [hs] at hne; simp at hne; omega
          | cons x t =>
            rw [hs] at hp
            have hx := sortF_mem (show x ∈ sortF (ltT l) l.length by rw [hs]; simp)
            have := end_first (fF l) (fG l) hp
            have : minF l (rd_T62 l 0).f0 ≤ fF l x := m3 _ (rd_flow_mem hx.1 hx.2)
            omega
        have f2 : sumN (fF l) l.length + minG l (rd_T62 l 0).f1 ≤ endI (fF l) (fG l) 0 0 (sortF (ltT l) l.length) := by
          rw [← eF]
          have hne : (sortF (ltT l) l.length).length = l.length := sortF_length _ _
          rcases nil_or_snoc (sortF (ltT l) l.length) with hs | ⟨t, x, hs⟩
          · rw [hs] at hne; simp at hne; omega
          · rw [hs] at hp ⊢
            have hx := sortF_mem (show x ∈ sortF (ltT l) l.length by rw [hs]; simp)
            have := end_last (fF l) (fG l) hp
            have : minG l (rd_T62 l 0).f1 ≤ fG l x := q3 _ (rd_flow_mem hx.1 hx.2)
            omega
        show (if _ < _ then _ else _) ≤ _
        split <;> omega
theorem impl_Makespan {l : List S62} {o : List Int} (hc : flowCode l o = 0) (h : l.length ≤ 1048576) (ho : o.length ≤ 1048576) : Ev (fun k => impl_Makespan.f k l o) (endI (fF l) (fG l) 0 0 o, 0) := by
  obtain ⟨r, _, h2, _⟩ := flow_told hc
  simp only [impl_Makespan.f]
  refine Ev.bind (ev_eq (impl_flowCode l o h ho) hc) ?_
  simp only [if_true]
  exact Ev.bind h2 (Ev.now _)
theorem likeInts (l : List Int) (h : l.length ≤ 9000000000000000000) : Ev (fun k => laws_likeInts.f k l l) true := by
  simp only [laws_likeInts.f, if_true]
  refine loop_list l (fun p s => Ev (fun k => laws_likeInts.l0 k l l (p.length : Int)) true) ?_ ?_
  · refine Ev.step (fun k => by rw [laws_likeInts.l0]) ?_
    simp only [if_neg (nlt_self l)]
    exact Ev.now _
  · intro p x s he ih
    refine Ev.step (fun k => by rw [laws_likeInts.l0]) ?_
    simp only [if_pos (mid_lt he), if_pos (nat_nn p.length), if_true, mid_next he (by omega)]
    exact ih
/-- A source that stands somewhere in its code. -/
def Src (c : List Int) (a s : Int) : Prop := (∀ x ∈ c, 0 ≤ x ∧ x ≤ 255) ∧ c.length ≤ 4096 ∧ 0 ≤ a ∧ a ≤ (c.length : Int) ∧ 0 ≤ s ∧ s < 2147483647
theorem rd_byte {c : List Int} (h : ∀ x ∈ c, 0 ≤ x ∧ x ≤ 255) (i : Int) : 0 ≤ rd c i ∧ rd c i ≤ 255 := by
  unfold rd
  rw [List.getD_eq_getElem?_getD]
  cases e : c[i.toNat]? with
  | none => simp
  | some v => exact h v (List.mem_of_getElem? e)
theorem tmod_range {x n : Int} (hx : 0 ≤ x) (hn : 1 < n) : 0 ≤ Int.tmod x n ∧ Int.tmod x n < n := by
  rw [Int.tmod_eq_emod_of_nonneg hx]
  exact ⟨Int.emod_nonneg _ (by omega), Int.emod_lt_of_pos _ (by omega)⟩
theorem seed_step {s : Int} (h0 : 0 ≤ s) (h1 : s < 2147483647) : 0 ≤ Int.tmod (wrap64 ((wrap64 (s * 48271)) + 61)) 2147483647 ∧ Int.tmod (wrap64 ((wrap64 (s * 48271)) + 61)) 2147483647 < 2147483647 := by
  rw [w64 (x := s * 48271) (by omega) (by omega), w64 (by omega) (by omega)]
  exact tmod_range (by omega) (by omega)
theorem draw_next {c : List Int} {a s : Int} (h : Src c a s) (n : Int) : ∃ v a' s', spec_l01Next.f c a s n = some (v, a', s') ∧ Src c a' s' ∧ (n ≤ 1 → v = 0) ∧ (1 < n → 0 ≤ v ∧ v < n) := by
  obtain ⟨hb, hl, ha, ha1, hs, hs1⟩ := h
  by_cases hn : n ≤ 1
  · exact ⟨0, a, s, by simp only [spec_l01Next.f, if_pos hn], ⟨hb, hl, ha, ha1, hs, hs1⟩, fun _ => rfl, fun h => by omega⟩
  · have hn0 : ¬ n = 0 := by omega
    obtain ⟨k0, k1⟩ := seed_step hs hs1
    generalize hk : Int.tmod (wrap64 ((wrap64 (s * 48271)) + 61)) 2147483647 = t at k0 k1
    have hx : Int.tdiv t 31 = t / 31 := Int.tdiv_eq_ediv_of_nonneg k0
    have hx1 : wrap64 (t / 31) = t / 31 := w64 (by omega) (by omega)
    by_cases hlt : a < (c.length : Int)
    · have e1 : wrap64 (a + 1) = a + 1 := w64 (by omega) (by omega)
      have e2 : wrap64 (a + 1 - 1) = a := by rw [show a + 1 - 1 = a by omega]; exact w64 (by omega) (by omega)
      obtain ⟨b0, b1⟩ := rd_byte hb a
      have e3 : wrap64 (rd c a) = rd c a := w64 (by omega) (by omega)
      have e4 : wrap64 (t / 31 + rd c a) = t / 31 + rd c a := w64 (by omega) (by omega)
      have hS : Src c (a + 1) t := ⟨hb, hl, by omega, by omega, k0, k1⟩
      by_cases h256 : n ≤ 256
      · by_cases he : Int.tmod (a + 1) 2 = 0
        · refine ⟨Int.tmod (rd c a) n, a + 1, t, ?_, hS, fun h => by omega, fun h => tmod_range b0 h⟩
          simp only [spec_l01Next.f, if_neg hn, if_pos hlt, if_pos ha, if_pos h256, e1, e2, e3, hk, if_pos he, if_neg hn0]
        · refine ⟨Int.tmod (t / 31 + rd c a) n, a + 1, t, ?_, hS, fun h => by omega, fun h => tmod_range (by omega) h⟩
          simp only [spec_l01Next.f, if_neg hn, if_pos hlt, if_pos ha, if_pos h256, e1, e2, e3, e4, hk, hx, hx1, if_neg he, if_neg hn0]
      · refine ⟨Int.tmod (t / 31 + rd c a) n, a + 1, t, ?_, hS, fun h => by omega, fun h => tmod_range (by omega) h⟩
        simp only [spec_l01Next.f, if_neg hn, if_pos hlt, if_pos ha, if_neg h256, e1, e3, e4, hk, hx, hx1, if_neg hn0]
    · refine ⟨Int.tmod (t / 31) n, a, t, ?_, ⟨hb, hl, ha, ha1, k0, k1⟩, fun h => by omega, fun h => tmod_range (by omega) h⟩
      simp only [spec_l01Next.f, if_neg hn, if_neg hlt, hk, hx, hx1, if_neg hn0]
theorem draw_pick {c : List Int} {a s : Int} (h : Src c a s) (l : List Int) (h0 : 0 < l.length) (h1 : l.length ≤ 1000) : ∃ v a' s', spec_l01Pick.f c a s l = some (v, a', s') ∧ Src c a' s' ∧ v ∈ l := by
  obtain ⟨v, a', s', e, hS, hv0, hv1⟩ := draw_next h (l.length : Int)
  have hv : 0 ≤ v ∧ v < (l.length : Int) := by
    by_cases hn : (l.length : Int) ≤ 1
    · have := hv0 hn; omega
    · exact hv1 (by omega)
  refine ⟨rd l v, a', s', by simp only [spec_l01Pick.f, e, Option.bind_some, if_pos hv.1, if_pos hv.2], hS, ?_⟩
  have : v.toNat < l.length := by omega
  unfold rd
  rw [List.getD_eq_getElem?_getD, List.getElem?_eq_getElem this]
  exact List.getElem_mem this
theorem draw_from (c : List Int) (hb : ∀ x ∈ c, (Lit.int .u8 x).wf = true) (hl : c.length ≤ 4096) : ∃ s, Ev (fun k => spec_l01From.f k c) (c, 0, s) ∧ Src c 0 s := by
  have hb' : ∀ x ∈ c, 0 ≤ x ∧ x ≤ 255 := by
    intro x hx
    have := hb x hx
    simp only [Lit.wf, IntKind.min, IntKind.max, IntKind.signed, IntKind.bits, Bool.and_eq_true, decide_eq_true_eq] at this
    simp at this
    omega
  have H := loop_list c (fun p t => ∀ s, 0 ≤ s → s < 2147483647 → ∃ s', Ev (fun k => spec_l01From.l0 k c (p.length : Int) c 0 s) (c, 0, s') ∧ 0 ≤ s' ∧ s' < 2147483647) ?_ ?_ 88007 (by omega) (by omega)
  · obtain ⟨s', h, h0, h1⟩ := H
    exact ⟨s', h, hb', hl, by omega, by omega, h0, h1⟩
  · intro s h0 h1
    refine ⟨s, Ev.step (fun k => by rw [spec_l01From.l0]) ?_, h0, h1⟩
    simp only [if_neg (nlt_self c)]
    exact Ev.now _
  · intro p x t he ih s h0 h1
    by_cases h64 : (p.length : Int) < 64
    · have hx : rd c (p.length : Int) = x := mid_get he 0
      obtain ⟨b0, b1⟩ := hb' x (by rw [he]; simp)
      have e : wrap64 (wrap64 (s * 71) + wrap64 x) = s * 71 + x := by rw [w64 (x := s * 71) (by omega) (by omega), w64 (x := x) (by omega) (by omega), w64 (by omega) (by omega)]
      obtain ⟨k0, k1⟩ := tmod_range (x := s * 71 + x) (n := 2147483647) (by omega) (by omega)
      obtain ⟨s', h, g0, g1⟩ := ih (Int.tmod (s * 71 + x) 2147483647) k0 k1
      refine ⟨s', Ev.step (fun k => by rw [spec_l01From.l0]) ?_, g0, g1⟩
      simp only [if_pos (mid_lt he), if_pos h64, if_pos (nat_nn p.length), hx, e, mid_next he (by omega)]
      exact h
    · refine ⟨s, Ev.step (fun k => by rw [spec_l01From.l0]) ?_, h0, h1⟩
      simp only [if_pos (mid_lt he), if_neg h64]
      exact Ev.now _
theorem draw_of {c : List Int} : ∀ (d : Nat) (n : Int) (l : List Int) (a s : Int), n - (l.length : Int) ≤ d → n ≤ 1000 → Src c a s → ∃ r a' s', Ev (fun k => spec_l01DrawOf.l0 k n l (l.length : Int) c a s) (r, a', s') ∧ Src c a' s' ∧ (r.length : Int) ≤ (if (l.length : Int) < n then n else (l.length : Int)) := by
  intro d
  induction d with
  | zero =>
    intro n l a s hd hn h
    refine ⟨l, a, s, Ev.step (fun k => by rw [spec_l01DrawOf.l0]) ?_, h, by rw [if_neg (by omega)]; omega⟩
    simp only [if_neg (show ¬ (l.length : Int) < n by omega)]
    exact Ev.now _
  | succ d ih =>
    intro n l a s hd hn h
    by_cases hlt : (l.length : Int) < n
    · obtain ⟨v, a1, s1, e1, h1, hv0, hv1⟩ := draw_next h (wrap64 ((l.length : Int) + 1))
      have ew : wrap64 ((l.length : Int) + 1) = (l.length : Int) + 1 := w64 (by omega) (by omega)
      rw [ew] at e1 hv0 hv1
      have hv : 0 ≤ v ∧ v ≤ (l.length : Int) := by
        by_cases h2 : (l.length : Int) + 1 ≤ 1
        · have := hv0 h2; omega
        · have := hv1 (by omega); omega
      obtain ⟨r, a', s', hr, h', hl'⟩ := ih n (l.take v.toNat ++ [(l.length : Int)] ++ l.drop v.toNat) a1 s1 (by simp; omega) hn h1
      have el : ((l.take v.toNat ++ [(l.length : Int)] ++ l.drop v.toNat).length : Int) = (l.length : Int) + 1 := by simp; omega
      rw [el] at hr hl'
      refine ⟨r, a', s', Ev.step (fun k => by rw [spec_l01DrawOf.l0]) ?_, h', by rw [if_pos hlt]; split at hl' <;> omega⟩
      have c1 : ([] : List Int).length + (l.take v.toNat).length < 17592186044416 := by simp; omega
      have c2 : (l.take v.toNat).length + ([(l.length : Int)] : List Int).length < 17592186044416 := by simp; omega
      have c3 : (l.take v.toNat ++ [(l.length : Int)]).length + (l.drop v.toNat).length < 17592186044416 := by simp; omega
      simp only [if_pos hlt, ew, e1, Option.bind_some, if_pos hv.1, if_pos hv.2, spec_l01Own.f, if_pos c1, List.nil_append, if_pos c2, if_pos c3]
      exact hr
    · refine ⟨l, a, s, Ev.step (fun k => by rw [spec_l01DrawOf.l0]) ?_, h, by rw [if_neg hlt]; omega⟩
      simp only [if_neg hlt]
      exact Ev.now _
theorem draw_perm {c : List Int} {a s : Int} (h : Src c a s) (n : Int) (hn : n ≤ 1000) : ∃ r a' s', Ev (fun k => spec_l01DrawOf.f k c a s n) (r, a', s') ∧ Src c a' s' ∧ r.length ≤ 1000 := by
  obtain ⟨r, a', s', hr, h', hl⟩ := draw_of (c := c) (n - 0).toNat n [] a s (by simp; omega) hn h
  refine ⟨r, a', s', hr, h', ?_⟩
  simp at hl
  split at hl <;> omega
theorem draw_order {c : List Int} {a s : Int} (h : Src c a s) : ∃ r a' s', Ev (fun k => spec_l01DrawOrder.f k c a s) (r, a', s') ∧ Src c a' s' ∧ r.length ≤ 1001 := by
  obtain ⟨v1, a1, s1, e1, h1, m1⟩ := draw_pick h [6, 9, 14] (by decide) (by decide)
  obtain ⟨v2, a2, s2, e2, h2, m2, m2'⟩ := draw_next h1 v1
  have hv1 : v1 = 6 ∨ v1 = 9 ∨ v1 = 14 := by simpa using m1
  have hv2 := m2' (by omega)
  obtain ⟨r, a3, s3, e3, h3, l3⟩ := draw_perm h2 v2 (by omega)
  obtain ⟨v4, a4, s4, e4, h4, _⟩ := draw_next h3 24
  simp only [spec_l01DrawOrder.f, e1, e2, Option.bind_some]
  by_cases g0 : v4 = 0
  · obtain ⟨v5, a5, s5, e5, h5, _⟩ := draw_pick h4 [-1, 0, (r.length : Int), wrap64 ((r.length : Int) + 1)] (by simp) (by simp)
    refine ⟨r ++ [v5], a5, s5, Ev.bind e3 ?_, h5, by simp; omega⟩
    simp only [e4, Option.bind_some, if_pos g0, e5, if_pos (show r.length < 17592186044416 by omega)]
    exact Ev.now _
  · by_cases g1 : v4 = 1
    · obtain ⟨v5, a5, s5, e5, h5, _, m5⟩ := draw_next h4 2
      have := m5 (by omega)
      obtain ⟨r', a6, s6, e6, h6, l6⟩ := draw_perm h5 (wrap64 (64 + v5)) (by rw [w64 (by omega) (by omega)]; omega)
      refine ⟨r', a6, s6, Ev.bind e3 ?_, h6, by omega⟩
      simp only [e4, Option.bind_some, if_neg g0, if_pos g1, e5]
      refine Ev.bind e6 ?_
      exact Ev.now _
    · refine ⟨r, a4, s4, Ev.bind e3 ?_, h4, by omega⟩
      simp only [e4, Option.bind_some, if_neg g0, if_neg g1]
      exact Ev.now _
theorem draw_flow_l0 {c : List Int} : ∀ (d : Nat) (l : List S62) (n a s : Int), n ≤ d → l.length + d ≤ 6 → Src c a s → ∃ r a' s', Ev (fun k => spec_l21Draw.l0 k l n c a s) (r, a', s') ∧ Src c a' s' ∧ r.length ≤ 8 := by
  intro d
  induction d with
  | zero =>
    intro l n a s hn hl h
    obtain ⟨v1, a1, s1, e1, h1, _⟩ := draw_next h 40
    by_cases g0 : v1 = 0
    · obtain ⟨v2, a2, s2, e2, h2, _⟩ := draw_pick h1 [-1, 0, 100000, 100001] (by decide) (by decide)
      obtain ⟨v3, a3, s3, e3, h3, _⟩ := draw_pick h2 [0, 100000, -1] (by decide) (by decide)
      refine ⟨l ++ [⟨v2, v3⟩], a3, s3, Ev.step (fun k => by rw [spec_l21Draw.l0]) ?_, h3, by simp; omega⟩
      simp only [if_neg (show ¬ n > 0 by omega), e1, Option.bind_some, if_pos g0, e2, e3, if_pos (show l.length < 8796093022208 by omega)]
      exact Ev.now _
    · by_cases g1 : v1 = 1
      · refine ⟨List.replicate 8 z62, a1, s1, Ev.step (fun k => by rw [spec_l21Draw.l0]) ?_, h1, by simp⟩
        simp only [if_neg (show ¬ n > 0 by omega), e1, Option.bind_some, if_neg g0, if_pos g1]
        exact Ev.now _
      · refine ⟨l, a1, s1, Ev.step (fun k => by rw [spec_l21Draw.l0]) ?_, h1, by omega⟩
        simp only [if_neg (show ¬ n > 0 by omega), e1, Option.bind_some, if_neg g0, if_neg g1]
        exact Ev.now _
  | succ d ih =>
    intro l n a s hn hl h
    by_cases hp : n > 0
    · obtain ⟨v1, a1, s1, e1, h1, _⟩ := draw_next h 20
      obtain ⟨v2, a2, s2, e2, h2, _⟩ := draw_next h1 20
      obtain ⟨r, a', s', hr, h', hl'⟩ := ih (l ++ [⟨v1, v2⟩]) (wrap64 (n - 1)) a2 s2 (by rw [w64 (by omega) (by omega)]; omega) (by simp; omega) h2
      refine ⟨r, a', s', Ev.step (fun k => by rw [spec_l21Draw.l0]) ?_, h', hl'⟩
      simp only [if_pos hp, e1, e2, Option.bind_some, if_pos (show l.length < 8796093022208 by omega)]
      exact hr
    · exact ih l n a s (by omega) (by omega) h
theorem draw_flow {c : List Int} {a s : Int} (h : Src c a s) : ∃ l a' s', Ev (fun k => spec_l21Draw.f k c a s) (l, a', s') ∧ Src c a' s' ∧ l.length ≤ 8 := by
  obtain ⟨v1, a1, s1, e1, h1, m0, m1⟩ := draw_next h 7
  have := m1 (by omega)
  obtain ⟨l, a', s', hr, h', hl⟩ := draw_flow_l0 (c := c) 6 [] v1 a1 s1 (by omega) (by simp) h1
  refine ⟨l, a', s', ?_, h', hl⟩
  simp only [spec_l21Draw.f, e1, Option.bind_some]
  exact hr
theorem draw_makespan (c : List Int) (hb : ∀ x ∈ c, (Lit.int .u8 x).wf = true) (hl : c.length ≤ 4096) : ∃ l o, Ev (fun k => spec_DrawMakespan.f k c) (l, o) ∧ l.length ≤ 8 ∧ o.length ≤ 1001 := by
  obtain ⟨s0, h0, hs0⟩ := draw_from c hb hl
  obtain ⟨l, a1, s1, h1, hs1, l1⟩ := draw_flow hs0
  obtain ⟨v2, a2, s2, e2, hs2, _⟩ := draw_next hs1 16
  simp only [spec_DrawMakespan.f, spec_l21DrawOrder.f]
  by_cases g : v2 = 0
  · obtain ⟨o, a3, s3, h3, hs3, l3⟩ := draw_order hs2
    refine ⟨l, o, Ev.bind h0 (Ev.bind (a := (l, o, a3, s3)) (Ev.bind h1 ?_) (Ev.now _)), l1, l3⟩
    simp only [e2, Option.bind_some, if_pos g]
    exact Ev.bind h3 (Ev.now _)
  · obtain ⟨o, a3, s3, h3, hs3, l3⟩ := draw_perm hs2 (l.length : Int) (by omega)
    refine ⟨l, o, Ev.bind h0 (Ev.bind (a := (l, o, a3, s3)) (Ev.bind h1 ?_) (Ev.now _)), l1, by omega⟩
    simp only [e2, Option.bind_some, if_neg g]
    exact Ev.bind h3 (Ev.now _)
theorem makespan_told (l : List S62) (o : List Int) (h : l.length ≤ 1048576) (ho : o.length ≤ 1048576) : ∃ n : Int × Int, Ev (fun k => spec_Makespan.f k l o) n ∧ Ev (fun k => impl_Makespan.f k l o) n ∧ n.2 = flowCode l o ∧ (flowCode l o = 0 → n.1 = endI (fF l) (fG l) 0 0 o) := by
  simp only [spec_Makespan.f, impl_Makespan.f]
  by_cases hc : flowCode l o = 0
  · obtain ⟨r, f1, f2, _⟩ := flow_told hc
    refine ⟨(endI (fF l) (fG l) 0 0 o, 0), Ev.bind (ev_eq (spec_flowCode l o h ho) hc) ?_, Ev.bind (ev_eq (impl_flowCode l o h ho) hc) ?_, hc.symm, fun _ => rfl⟩
    · simp only [if_true]; exact Ev.bind f1 (Ev.now _)
    · simp only [if_true]; exact Ev.bind f2 (Ev.now _)
  · refine ⟨(0, flowCode l o), Ev.bind (spec_flowCode l o h ho) ?_, Ev.bind (impl_flowCode l o h ho) ?_, rfl, fun h => absurd h hc⟩ <;> simp only [if_neg hc] <;> exact Ev.now _
theorem two_told (l : List S62) (h : l.length ≤ 1048576) : ∃ r : List Int × Int, Ev (fun k => spec_TwoPartOrder.f k l) r ∧ Ev (fun k => impl_TwoPartOrder.f k l) r ∧ r = if flowB l = true then (sortF (ltT l) l.length, 0) else ([], 1) := by
  simp only [spec_TwoPartOrder.f, impl_TwoPartOrder.f]
  cases hc : flowB l
  · exact ⟨([], 1), Ev.bind (ev_eq (spec_AreFlowJobs l h) hc) (by simp only [Bool.false_eq_true, if_false]; exact Ev.now _), Ev.bind (ev_eq (impl_AreFlowJobs l h) hc) (by simp only [Bool.false_eq_true, if_false]; exact Ev.now _), by simp⟩
  · obtain ⟨hok, h7⟩ := flowB_ok hc
    refine ⟨(sortF (ltT l) l.length, 0), Ev.bind (ev_eq (spec_AreFlowJobs l h) hc) ?_, Ev.bind (ev_eq (impl_AreFlowJobs l h) hc) ?_, by simp⟩
    · simp only [if_true]
      exact Ev.bind (spec_two l (by omega)) (Ev.now _)
    · simp only [if_true, impl_twoPartOrder.f]
      exact Ev.bind (Ev.bind (sorted_impl_twoPartOrder_1 (cmp_two l hok) (ltT_O l) (ltT_A l) h7) (Ev.now _)) (Ev.now _)
theorem FnFlow : laws_FnFlow.Pure := by
  intro c hl hb
  refine Ev.rounds (g := fun k => laws_FnFlow.f k c) ?_
  simp only [laws_FnFlow.f, laws_big.f, Option.bind_some]
  by_cases hbig : (c.length : Int) > 4096
  · simp only [decide_eq_true hbig, if_true]
    exact Ev.now _
  simp only [decide_eq_false hbig, Bool.false_eq_true, if_false]
  obtain ⟨l, o, hdr, hl8, ho8⟩ := draw_makespan c hb (by omega)
  have hlm : l.length ≤ 1048576 := by omega
  have hom : o.length ≤ 1048576 := by omega
  obtain ⟨n, m1, m2, m3, m4⟩ := makespan_told l o hlm hom
  obtain ⟨p, p1, p2, p3⟩ := two_told l hlm
  obtain ⟨q, q1, q2, q3⟩ := both_LeastMakespan l hlm
  obtain ⟨b, b1, b2, b3, b4⟩ := both_bound l hlm
  have ia : Ev (fun k => impl_AreFlowJobs.f k l) (flowB l) := impl_AreFlowJobs l hlm
  have hpl : p.1.length ≤ 1048576 := by rw [p3]; split <;> simp [sortF_length]; omega
  refine Ev.bind hdr ?_
  refine Ev.bind m2 ?_
  refine Ev.bind m1 ?_
  refine Ev.bind p2 ?_
  refine Ev.bind p1 ?_
  refine Ev.bind q2 ?_
  refine Ev.bind q1 ?_
  refine Ev.bind b2 ?_
  refine Ev.bind b1 ?_
  simp only [if_true]
  refine Ev.bind (likeInts p.1 (by omega)) ?_
  simp only [if_true]
  refine Ev.bind ia ?_
  cases hf : flowB l
  · rw [hf] at p3 q3 b3
    simp only [Bool.false_eq_true, if_false] at p3 q3 b3
    refine Ev.step (fun k => by rw [laws_FnFlow.j0]) ?_
    simp only [p3]
    simp
    exact Ev.now _
  · rw [hf] at p3 q3 b3
    simp only [if_true] at p3 q3 b3
    have hk := two_code hf
    obtain ⟨n', k1, k2, k3, k4⟩ := makespan_told l (sortF (ltT l) l.length) hlm (by rw [sortF_length]; exact hlm)
    refine Ev.step (fun k => by rw [laws_FnFlow.j0]) ?_
    simp only [p3, q3, beq_self_eq_true, bne_self_eq_false, Bool.false_eq_true, if_false, if_true]
    refine Ev.bind k2 ?_
    simp only [k3, hk, if_true, k4 hk, if_pos (b4 hf)]
    by_cases hc : flowCode l o = 0
    · simp only [m3, hc, if_true, m4 hc]
      exact ev_eq (Ev.now _) (decide_eq_true (two_least hc))
    · simp only [m3, if_neg hc]
      exact Ev.now _

end Go.Proofs.Ytefnoiajfjbbpaa.Pure
