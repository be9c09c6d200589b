/- The pure statement of law FnWeights: what the printed functions compute answers true at every input. No condition. -/
import Derived.Test.YtdgacclmnfpajaaPFnWeightsx6
set_option linter.unusedVariables false
set_option linter.unusedSimpArgs false
namespace Go.Proofs.Ytdgacclmnfpajaa.Pure
open Go.RowKit Go.Proofs.Ytdgacclmnfpajaa.PFnWeights Go.Proofs.YtdgacclmnfpajaaW.PrintWords Go.Proofs.YtdgacclmnfpajaaW.PrintLast Go.Proofs.YtdgacclmnfpajaaW.PrintMore


/-! #### Numbers and rounds -/
theorem w64 {x : Int} (h1 : -9223372036854775808 ≤ x) (h2 : x ≤ 9223372036854775807) : wrap64 x = x := by
  unfold wrap64
  omega
theorem wf64 {x : Int} (h : (Lit.int .i64 x).wf = true) : -9223372036854775808 ≤ x ∧ x ≤ 9223372036854775807 := by
  simp only [Lit.wf, IntKind.min, IntKind.max, IntKind.signed, IntKind.bits, Bool.and_eq_true, decide_eq_true_eq, if_true] at h
  omega
theorem ev_of {α : Type} {g : Nat → Option α} {r : α} (h : ∀ k, g k = some r) : Ev g r := ⟨0, fun k _ => h k⟩
theorem ev_eq {α : Type} {g : Nat → Option α} {r r' : α} (h : Ev g r) (e : r = r') : Ev g r' := e ▸ h
/-- A loop over a list: what lies behind, what lies ahead. -/
theorem loop_list {α : Type} (l : List α) (Q : List α → List α → Prop) (h0 : Q l []) (hs : ∀ p x s, l = p ++ x :: s → Q (p ++ [x]) s → Q p (x :: s)) : Q [] l := by
  have h : ∀ s p, l = p ++ s → Q p s := by
    intro s
    induction s with
    | nil => intro p hp; rw [List.append_nil] at hp; rw [← hp]; exact h0
    | cons x s ih => intro p hp; exact hs p x s hp (ih (p ++ [x]) (by simp [hp]))
  exact h l [] rfl
theorem mid_lt {α : Type} {l p s : List α} {x : α} (h : l = p ++ x :: s) : (p.length : Int) < (l.length : Int) := by
  rw [h, List.length_append, List.length_cons]; omega
theorem mid_next {α : Type} {l p s : List α} {x : α} (h : l = p ++ x :: s) (hl : l.length ≤ 9223372036854775807) : wrap64 ((p.length : Int) + 1) = ((p ++ [x]).length : Int) := by
  have := mid_lt h
  rw [w64 (by omega) (by omega), List.length_append]; simp
theorem mid_get {α : Type} {l p s : List α} {x : α} (h : l = p ++ x :: s) (z : α) : l.getD (p.length : Int).toNat z = x := by
  rw [h]; simp
theorem get_mid {α : Type} (p s : List α) (x z : α) : (p ++ x :: s).getD (p.length : Int).toNat z = x := by simp
theorem nat_nn (n : Nat) : (0 : Int) ≤ (n : Int) := by omega
theorem nlt_self {α : Type} (l : List α) : ¬ ((l.length : Int) < (l.length : Int)) := by omega
theorem set_mid {α : Type} (p s : List α) (x y : α) : (p ++ x :: s).set ((p.length : Int).toNat) y = p ++ y :: s := by
  rw [Int.toNat_natCast, List.set_append_right _ _ (Nat.le_refl _)]; simp
theorem nil_or_snoc {α : Type} (p : List α) : p = [] ∨ ∃ q y, p = q ++ [y] := by
  rcases List.eq_nil_or_concat p with h | ⟨q, y, h⟩
  · exact .inl h
  · exact .inr ⟨q, y, by rw [h, List.concat_eq_append]⟩
theorem loop_all {α : Type} (l : List α) (Q : List α → List α → Prop) (h0 : Q l []) (hs : ∀ p x s, l = p ++ x :: s → Q (p ++ [x]) s → Q p (x :: s)) : ∀ s p, l = p ++ s → Q p s := by
  intro s
  induction s with
  | nil => intro p hp; rw [List.append_nil] at hp; rw [← hp]; exact h0
  | cons x s ih => intro p hp; exact hs p x s hp (ih (p ++ [x]) (by simp [hp]))
/-- A source that stands somewhere in its code. -/
def Src (c : List Int) (a s : Int) : Prop := (∀ x ∈ c, 0 ≤ x ∧ x ≤ 255) ∧ c.length ≤ 4096 ∧ 0 ≤ a ∧ a ≤ (c.length : Int) ∧ 0 ≤ s ∧ s < 2147483647
theorem rd_byte {c : List Int} (h : ∀ x ∈ c, 0 ≤ x ∧ x ≤ 255) (i : Int) : 0 ≤ rd c i ∧ rd c i ≤ 255 := by
  unfold rd
  rw [List.getD_eq_getElem?_getD]
  cases e : c[i.toNat]? with
  | none => simp
  | some v => exact h v (List.mem_of_getElem? e)
theorem tmod_range {x n : Int} (hx : 0 ≤ x) (hn : 1 < n) : 0 ≤ Int.tmod x n ∧ Int.tmod x n < n := by
  rw [Int.tmod_eq_emod_of_nonneg hx]
  exact ⟨Int.emod_nonneg _ (by omega), Int.emod_lt_of_pos _ (by omega)⟩
theorem seed_step {s : Int} (h0 : 0 ≤ s) (h1 : s < 2147483647) : 0 ≤ Int.tmod (wrap64 ((wrap64 (s * 48271)) + 61)) 2147483647 ∧ Int.tmod (wrap64 ((wrap64 (s * 48271)) + 61)) 2147483647 < 2147483647 := by
  rw [w64 (x := s * 48271) (by omega) (by omega), w64 (by omega) (by omega)]
  exact tmod_range (by omega) (by omega)
theorem draw_next {c : List Int} {a s : Int} (h : Src c a s) (n : Int) : ∃ v a' s', spec_l01Next.f c a s n = some (v, a', s') ∧ Src c a' s' ∧ (n ≤ 1 → v = 0) ∧ (1 < n → 0 ≤ v ∧ v < n) := by
  obtain ⟨hb, hl, ha, ha1, hs, hs1⟩ := h
  by_cases hn : n ≤ 1
  · exact ⟨0, a, s, by simp only [spec_l01Next.f, if_pos hn], ⟨hb, hl, ha, ha1, hs, hs1⟩, fun _ => rfl, fun h => by omega⟩
  · have hn0 : ¬ n = 0 := by omega
    obtain ⟨k0, k1⟩ := seed_step hs hs1
    generalize hk : Int.tmod (wrap64 ((wrap64 (s * 48271)) + 61)) 2147483647 = t at k0 k1
    have hx : Int.tdiv t 31 = t / 31 := Int.tdiv_eq_ediv_of_nonneg k0
    have hx1 : wrap64 (t / 31) = t / 31 := w64 (by omega) (by omega)
    by_cases hlt : a < (c.length : Int)
    · have e1 : wrap64 (a + 1) = a + 1 := w64 (by omega) (by omega)
      have e2 : wrap64 (a + 1 - 1) = a := by rw [show a + 1 - 1 = a by omega]; exact w64 (by omega) (by omega)
      obtain ⟨b0, b1⟩ := rd_byte hb a
      have e3 : wrap64 (rd c a) = rd c a := w64 (by omega) (by omega)
      have e4 : wrap64 (t / 31 + rd c a) = t / 31 + rd c a := w64 (by omega) (by omega)
      have hS : Src c (a + 1) t := ⟨hb, hl, by omega, by omega, k0, k1⟩
      by_cases h256 : n ≤ 256
      · by_cases he : Int.tmod (a + 1) 2 = 0
        · refine ⟨Int.tmod (rd c a) n, a + 1, t, ?_, hS, fun h => by omega, fun h => tmod_range b0 h⟩
          simp only [spec_l01Next.f, if_neg hn, if_pos hlt, if_pos ha, if_pos h256, e1, e2, e3, hk, if_pos he, if_neg hn0]
        · refine ⟨Int.tmod (t / 31 + rd c a) n, a + 1, t, ?_, hS, fun h => by omega, fun h => tmod_range (by omega) h⟩
          simp only [spec_l01Next.f, if_neg hn, if_pos hlt, if_pos ha, if_pos h256, e1, e2, e3, e4, hk, hx, hx1, if_neg he, if_neg hn0]
      · refine ⟨Int.tmod (t / 31 + rd c a) n, a + 1, t, ?_, hS, fun h => by omega, fun h => tmod_range (by omega) h⟩
        simp only [spec_l01Next.f, if_neg hn, if_pos hlt, if_pos ha, if_neg h256, e1, e3, e4, hk, hx, hx1, if_neg hn0]
    · refine ⟨Int.tmod (t / 31) n, a, t, ?_, ⟨hb, hl, ha, ha1, k0, k1⟩, fun h => by omega, fun h => tmod_range (by omega) h⟩
      simp only [spec_l01Next.f, if_neg hn, if_neg hlt, hk, hx, hx1, if_neg hn0]
theorem draw_pick {c : List Int} {a s : Int} (h : Src c a s) (l : List Int) (h0 : 0 < l.length) (h1 : l.length ≤ 1000) : ∃ v a' s', spec_l01Pick.f c a s l = some (v, a', s') ∧ Src c a' s' ∧ v ∈ l := by
  obtain ⟨v, a', s', e, hS, hv0, hv1⟩ := draw_next h (l.length : Int)
  have hv : 0 ≤ v ∧ v < (l.length : Int) := by
    by_cases hn : (l.length : Int) ≤ 1
    · have := hv0 hn; omega
    · exact hv1 (by omega)
  refine ⟨rd l v, a', s', by simp only [spec_l01Pick.f, e, Option.bind_some, if_pos hv.1, if_pos hv.2], hS, ?_⟩
  have : v.toNat < l.length := by omega
  unfold rd
  rw [List.getD_eq_getElem?_getD, List.getElem?_eq_getElem this]
  exact List.getElem_mem this
theorem draw_from (c : List Int) (hb : ∀ x ∈ c, (Lit.int .u8 x).wf = true) (hl : c.length ≤ 4096) : ∃ s, Ev (fun k => spec_l01From.f k c) (c, 0, s) ∧ Src c 0 s := by
  have hb' : ∀ x ∈ c, 0 ≤ x ∧ x ≤ 255 := by
    intro x hx
    have := hb x hx
    simp only [Lit.wf, IntKind.min, IntKind.max, IntKind.signed, IntKind.bits, Bool.and_eq_true, decide_eq_true_eq] at this
    simp at this
    omega
  have H := loop_list c (fun p t => ∀ s, 0 ≤ s → s < 2147483647 → ∃ s', Ev (fun k => spec_l01From.l0 k c (p.length : Int) c 0 s) (c, 0, s') ∧ 0 ≤ s' ∧ s' < 2147483647) ?_ ?_ 88007 (by omega) (by omega)
  · obtain ⟨s', h, h0, h1⟩ := H
    exact ⟨s', h, hb', hl, by omega, by omega, h0, h1⟩
  · intro s h0 h1
    refine ⟨s, Ev.step (fun k => by rw [spec_l01From.l0]) ?_, h0, h1⟩
    simp only [if_neg (nlt_self c)]
    exact Ev.now _
  · intro p x t he ih s h0 h1
    by_cases h64 : (p.length : Int) < 64
    · have hx : rd c (p.length : Int) = x := mid_get he 0
      obtain ⟨b0, b1⟩ := hb' x (by rw [he]; simp)
      have e : wrap64 (wrap64 (s * 71) + wrap64 x) = s * 71 + x := by rw [w64 (x := s * 71) (by omega) (by omega), w64 (x := x) (by omega) (by omega), w64 (by omega) (by omega)]
      obtain ⟨k0, k1⟩ := tmod_range (x := s * 71 + x) (n := 2147483647) (by omega) (by omega)
      obtain ⟨s', h, g0, g1⟩ := ih (Int.tmod (s * 71 + x) 2147483647) k0 k1
      refine ⟨s', Ev.step (fun k => by rw [spec_l01From.l0]) ?_, g0, g1⟩
      simp only [if_pos (mid_lt he), if_pos h64, if_pos (nat_nn p.length), hx, e, mid_next he (by omega)]
      exact h
    · refine ⟨s, Ev.step (fun k => by rw [spec_l01From.l0]) ?_, h0, h1⟩
      simp only [if_pos (mid_lt he), if_neg h64]
      exact Ev.now _
theorem draw_paper {c : List Int} {a s : Int} (h : Src c a s) : ∃ g b a' s', spec_l18Draw.f c a s = some (g, b, a', s') ∧ Src c a' s' ∧ 29 ≤ g ∧ g ≤ 501 ∧ 49 ≤ b ∧ b ≤ 301 := by
  obtain ⟨v1, a1, s1, e1, h1, _, k1⟩ := draw_next h 25
  obtain ⟨v2, a2, s2, e2, h2, _, k2⟩ := draw_next h1 25
  obtain ⟨v3, a3, s3, e3, h3, _, k3⟩ := draw_next h2 40
  have b1 := k1 (by omega)
  have b2 := k2 (by omega)
  have w1 : wrap64 (50 + wrap64 (10 * v1)) = 50 + 10 * v1 := by rw [w64 (x := 10 * v1) (by omega) (by omega), w64 (by omega) (by omega)]
  have w2 : wrap64 (80 + wrap64 (5 * v2)) = 80 + 5 * v2 := by rw [w64 (x := 5 * v2) (by omega) (by omega), w64 (by omega) (by omega)]
  simp only [spec_l18Draw.f, e1, e2, e3, Option.bind_some, w1, w2]
  by_cases g0 : v3 = 0
  · obtain ⟨v4, a4, s4, e4, h4, m4⟩ := draw_pick h3 [29, 30, 500, 501] (by decide) (by decide)
    simp only [if_pos g0, e4, Option.bind_some]
    refine ⟨_, _, _, _, rfl, h4, ?_⟩
    simp at m4; omega
  · by_cases g1 : v3 = 1
    · obtain ⟨v4, a4, s4, e4, h4, m4⟩ := draw_pick h3 [49, 50, 300, 301] (by decide) (by decide)
      simp only [if_neg g0, if_pos g1, e4, Option.bind_some]
      refine ⟨_, _, _, _, rfl, h4, ?_⟩
      simp at m4; omega
    · simp only [if_neg g0, if_neg g1]
      exact ⟨_, _, _, _, rfl, h3, by omega⟩
theorem draw_sheet {c : List Int} {a s : Int} (h : Src c a s) : ∃ x y a' s', spec_l17DrawSheet.f c a s = some (x, y, a', s') ∧ Src c a' s' := by
  obtain ⟨v1, a1, s1, e1, h1, _⟩ := draw_next h 24
  simp only [spec_l17DrawSheet.f, e1, Option.bind_some]
  by_cases g0 : v1 = 0
  · obtain ⟨v4, a4, s4, e4, h4, m4⟩ := draw_pick h1 [0, 1, 20000, 20001] (by decide) (by decide)
    simp only [if_pos g0, e4, Option.bind_some]
    exact ⟨_, _, _, _, rfl, h4⟩
  · obtain ⟨v2, a2, s2, e2, h2, _⟩ := draw_next h1 12000
    obtain ⟨v3, a3, s3, e3, h3, _⟩ := draw_next h2 12000
    simp only [if_neg g0, e2, e3, Option.bind_some]
    exact ⟨_, _, _, _, rfl, h3⟩
def inR (a lo hi : Int) : Bool := decide (lo ≤ a) && decide (a ≤ hi)
theorem inR_iff {a lo hi : Int} : inR a lo hi = true ↔ lo ≤ a ∧ a ≤ hi := by simp [inR]
theorem l01In (a lo hi : Int) : spec_l01In.f a lo hi = some (inR a lo hi) := by
  unfold spec_l01In.f inR
  split
  · rename_i h; rw [decide_eq_true (show lo ≤ a from h), Bool.true_and]
  · rename_i h; rw [decide_eq_false (show ¬ lo ≤ a from h), Bool.false_and]
theorem inRange (a lo hi : Int) : impl_inRange.f a lo hi = some (inR a lo hi) := by
  unfold impl_inRange.f inR
  split
  · rename_i h; rw [decide_eq_true (show lo ≤ a from h), Bool.true_and]
  · rename_i h; rw [decide_eq_false (show ¬ lo ≤ a from h), Bool.false_and]
def paperB (a b : Int) : Bool := inR a 30 500 && inR b 50 300
theorem spec_IsPaper (a b : Int) : spec_IsPaper.f a b = some (paperB a b) := by
  simp only [spec_IsPaper.f, l01In, Option.bind_some, paperB]
  cases inR a 30 500 <;> cases inR b 50 300 <;> rfl
theorem impl_IsPaper (a b : Int) : impl_IsPaper.f a b = some (paperB a b) := by
  simp only [impl_IsPaper.f, inRange, Option.bind_some, paperB]
  cases inR a 30 500 <;> cases inR b 50 300 <;> rfl
def okPaper (x : S54) : Bool := paperB x.f0 x.f1
def quo (a b : Int) : Int := wrap64 (Int.tdiv (wrap64 ((wrap64 (a + b)) - 1)) b)
theorem l01Ceil (a b : Int) (h : b ≠ 0) : spec_l01Ceil.f a b = some (quo a b) := by
  unfold spec_l01Ceil.f
  rw [if_neg h]
  rfl
theorem quotient (a b : Int) (h : b ≠ 0) : impl_quotient.f a b = some (quo a b) := by
  unfold impl_quotient.f
  rw [if_neg h]
  rfl
def okPart (x : S71) : Bool := inR x.f0 1 4096 && paperB x.f1.f0 x.f1.f1
theorem impl_PartsThickness_1_ok (x : S71) : impl_PartsThickness_1.f x.f0 x.f1.f0 x.f1.f1 = some (!(okPart x)) := by
  simp only [impl_PartsThickness_1.f, impl_isPages.f, impl_IsPaper, inRange, Option.bind_some, okPart]
  cases inR x.f0 1 4096 <;> cases paperB x.f1.f0 x.f1.f1 <;> rfl
def thick2 (a b : Int) : Int := wrap64 (Int.tdiv (wrap64 ((wrap64 (a * b)) + 50)) 100)
def blockB (a b : Int) : Int := wrap64 ((wrap64 (Int.tdiv (wrap64 (a + 1)) 2)) * b)
def partF (acc : Int) (x : S71) : Int := wrap64 (acc + blockB x.f0 (thick2 x.f1.f0 x.f1.f1))
theorem thick2_s (a b : Int) : spec_l18Thick.f a b = some (thick2 a b) := rfl
theorem thick2_i (a b : Int) : impl_thicknessOf.f a b = some (thick2 a b) := rfl
theorem block_s (a b : Int) : spec_l07Block.f a b = some (blockB a b) := rfl
theorem block_i (a b : Int) : impl_block.f a b = some (blockB a b) := rfl
theorem spec_PartsThickness (l : List S71) (h : l.length ≤ 1048576) : Ev (fun k => spec_PartsThickness.f k l) (if l.all okPart = true ∧ inR (l.length : Int) 1 10 = true then (quo (l.foldl partF 0) 100, 0) else (0, 1)) := by
  refine loop_list l (fun p s => ∀ acc, Ev (fun k => spec_PartsThickness.l0 k l acc (p.length : Int)) (if s.all okPart = true ∧ inR (l.length : Int) 1 10 = true then (quo (s.foldl partF acc) 100, 0) else (0, 1))) ?_ ?_ 0
  · intro acc
    refine Ev.step (fun k => by rw [spec_PartsThickness.l0]) ?_
    simp only [if_neg (nlt_self l), l01In, Option.bind_some, l01Ceil _ 100 (by decide)]
    cases hl : inR (l.length : Int) 1 10
    · simp only [Bool.false_eq_true, if_false, and_false]
      exact Ev.now _
    · simp only [if_true]
      exact ev_eq (Ev.now _) (by simp)
  · intro p x s he ih acc
    have hp := mid_lt he
    refine Ev.step (fun k => by rw [spec_PartsThickness.l0]) ?_
    simp only [if_pos hp, if_pos (nat_nn p.length), rd_T71, mid_get he, l01In, spec_IsPaper, Option.bind_some]
    have J1 : Ev (fun k => spec_PartsThickness.j1 k l acc (p.length : Int) true) (0, 1) := Ev.step (fun k => by rw [spec_PartsThickness.j1, if_pos rfl]) (Ev.now _)
    cases h1 : inR x.f0 1 4096
    · simp only [Bool.false_eq_true, if_false]
      exact ev_eq J1 (by rw [if_neg]; simp [okPart, h1])
    · simp only [if_true]
      cases h2 : paperB x.f1.f0 x.f1.f1
      · simp only [Bool.not_false]
        exact ev_eq J1 (by rw [if_neg]; simp [okPart, h2])
      · simp only [Bool.not_true]
        refine Ev.step (fun k => by rw [spec_PartsThickness.j1]) ?_
        simp only [Bool.false_eq_true, if_false, if_pos hp, if_pos (nat_nn p.length), rd_T71, mid_get he, thick2_s, block_s, Option.bind_some, mid_next he (by omega)]
        exact ev_eq (ih _) (by simp [okPart, h1, h2, partF])
theorem contains_impl_PartsThickness_1 (l : List S71) (h : l.length ≤ 1048576) : Ev (fun k => slices_ContainsFunc_at_impl_PartsThickness_1.f k l) (!(l.all okPart)) := by
  have H := loop_list l (fun p s => ∃ r, Ev (fun k => slices_IndexFunc_at_impl_PartsThickness_1.l0 k l (l.length : Int) (p.length : Int)) r ∧ decide (r ≥ 0) = !(s.all okPart)) ?_ ?_
  · obtain ⟨r, hr, e⟩ := H
    rw [← e]
    exact Ev.bind hr (Ev.now _)
  · refine ⟨-1, Ev.step (fun k => by rw [slices_IndexFunc_at_impl_PartsThickness_1.l0]) ?_, by simp⟩
    simp only [if_neg (nlt_self l)]
    exact Ev.now _
  · rintro p x s he ⟨r, ih, e⟩
    by_cases hx : okPart x = true
    · refine ⟨r, Ev.step (fun k => by rw [slices_IndexFunc_at_impl_PartsThickness_1.l0]) ?_, by rw [e]; simp [hx]⟩
      simp only [if_pos (mid_lt he), if_pos (nat_nn p.length), rd_T71, mid_get he, impl_PartsThickness_1_ok, hx, Option.bind_some, mid_next he (by omega)]
      exact ih
    · refine ⟨(p.length : Int), Ev.step (fun k => by rw [slices_IndexFunc_at_impl_PartsThickness_1.l0]) ?_, by simp [hx]⟩
      simp only [if_pos (mid_lt he), if_pos (nat_nn p.length), rd_T71, mid_get he, impl_PartsThickness_1_ok, Bool.eq_false_iff.2 hx, Option.bind_some]
      exact Ev.now _
theorem impl_PartsThickness (l : List S71) (h : l.length ≤ 1048576) : Ev (fun k => impl_PartsThickness.f k l) (if l.all okPart = true ∧ inR (l.length : Int) 1 10 = true then (quo (l.foldl partF 0) 100, 0) else (0, 1)) := by
  simp only [impl_PartsThickness.f, impl_length_Part.f, inRange, Option.bind_some]
  have J0 : Ev (fun k => impl_PartsThickness.j0 k l true) (0, 1) := Ev.step (fun k => by rw [impl_PartsThickness.j0, if_pos rfl]) (Ev.now _)
  cases hl : inR (l.length : Int) 1 10
  · simp only [Bool.false_eq_true, if_false, and_false]
    exact J0
  · simp only [if_true, and_true]
    refine Ev.bind (contains_impl_PartsThickness_1 l h) ?_
    cases ho : l.all okPart
    · simp only [Bool.not_false, Bool.false_eq_true, if_false]
      exact J0
    · simp only [Bool.not_true, if_true]
      refine Ev.step (fun k => by rw [impl_PartsThickness.j0]) ?_
      simp only [Bool.false_eq_true, if_false]
      refine loop_list l (fun p s => ∀ acc, Ev (fun k => impl_PartsThickness.l0 k acc l (l.length : Int) (p.length : Int)) (quo (s.foldl partF acc) 100, 0)) ?_ ?_ 0
      · intro acc
        refine Ev.step (fun k => by rw [impl_PartsThickness.l0]) ?_
        simp only [if_neg (nlt_self l), quotient _ 100 (by decide), Option.bind_some]
        exact Ev.now _
      · intro p x s he ih acc
        refine Ev.step (fun k => by rw [impl_PartsThickness.l0]) ?_
        simp only [if_pos (mid_lt he), if_pos (nat_nn p.length), rd_T71, mid_get he, thick2_i, block_i, Option.bind_some, mid_next he (by omega)]
        exact ih _
theorem both_PartsThickness (l : List S71) (h : l.length ≤ 1048576) : ∃ r, Ev (fun k => spec_PartsThickness.f k l) r ∧ Ev (fun k => impl_PartsThickness.f k l) r := ⟨_, spec_PartsThickness l h, impl_PartsThickness l h⟩
theorem ceil_eq {n k : Int} (hk : 1 ≤ k) : (n + k - 1) / k = n / k + (if 0 < n % k then 1 else 0) := by
  have h1 := Int.emod_nonneg n (show k ≠ 0 by omega)
  have h2 := Int.emod_lt_of_pos n (show 0 < k by omega)
  have h3 := Int.mul_ediv_add_emod n k
  have e : n + k - 1 = (n % k + k - 1) + k * (n / k) := by omega
  rw [e, Int.add_mul_ediv_left _ _ (show k ≠ 0 by omega)]
  by_cases h : 0 < n % k
  · rw [if_pos h]
    have : (n % k + k - 1) / k = 1 := by
      rw [show n % k + k - 1 = (n % k - 1) + k * 1 by omega, Int.add_mul_ediv_left _ _ (show k ≠ 0 by omega), Int.ediv_eq_zero_of_lt (by omega) (by omega)]
      rfl
    omega
  · rw [if_neg h]
    have : (n % k + k - 1) / k = 0 := Int.ediv_eq_zero_of_lt (by omega) (by omega)
    omega
theorem quo_eq {a b : Int} (h0 : 0 ≤ a) (h1 : a ≤ 4000000000000000000) (hb : 1 ≤ b) (hb1 : b ≤ 4000000000000000000) : quo a b = (a + b - 1) / b := by
  unfold quo
  rw [w64 (x := a + b) (by omega) (by omega), w64 (x := a + b - 1) (by omega) (by omega), Int.tdiv_eq_ediv_of_nonneg (by omega)]
  have := Int.ediv_le_self (a := a + b - 1) b (by omega)
  have := Int.ediv_nonneg (a := a + b - 1) (b := b) (by omega) (by omega)
  rw [w64 (by omega) (by omega)]
/-- What a rounded up division is: the least number whose product is enough. -/
theorem ceil_spec {a b : Int} (hb : 1 ≤ b) : a ≤ ((a + b - 1) / b) * b ∧ ((a + b - 1) / b) * b < a + b := by
  have h1 := Int.mul_ediv_add_emod (a + b - 1) b
  have h2 := Int.emod_nonneg (a + b - 1) (show b ≠ 0 by omega)
  have h3 := Int.emod_lt_of_pos (a + b - 1) (show 0 < b by omega)
  rw [Int.mul_comm]
  constructor <;> omega
theorem mul_bound {a b A B : Int} (h0 : 0 ≤ a) (h1 : a ≤ A) (h2 : 0 ≤ b) (h3 : b ≤ B) : 0 ≤ a * b ∧ a * b ≤ A * B :=
  ⟨Int.mul_nonneg h0 h2, Int.mul_le_mul h1 h3 h2 (by omega)⟩
theorem draw_parts_l1 {c : List Int} : ∀ (d : Nat) (l : List S71) (a s : Int), l.length + d = 11 → Src c a s → ∃ r, Ev (fun k => spec_DrawPartsThickness.l1 k l c a s) r ∧ r.length ≤ 11 := by
  intro d
  induction d with
  | zero =>
    intro l a s hl h
    obtain ⟨v1, a1, s1, e1, h1, _, hv⟩ := draw_next h 2
    obtain ⟨v0, v1'⟩ := hv (by omega)
    refine ⟨l.take (10 + v1).toNat, Ev.step (fun k => by rw [spec_DrawPartsThickness.l1]) ?_, by rw [List.length_take]; omega⟩
    simp only [if_neg (show ¬ ((l.length : Int) < 11) by omega), e1, Option.bind_some, w64 (x := 10 + v1) (by omega) (by omega), if_pos (show 0 ≤ 10 + v1 by omega), if_pos (show 10 + v1 ≤ (l.length : Int) by omega)]
    exact Ev.now _
  | succ d ih =>
    intro l a s hl h
    obtain ⟨r, hr, hl'⟩ := ih (l ++ [⟨3, ⟨85, 130⟩⟩]) a s (by simp; omega) h
    refine ⟨r, Ev.step (fun k => by rw [spec_DrawPartsThickness.l1]) ?_, hl'⟩
    simp only [if_pos (show ((l.length : Int) < 11) by omega), if_pos (show l.length < 5864062014805 by omega)]
    exact hr
theorem draw_parts_l0 {c : List Int} : ∀ (d : Nat) (l : List S71) (n a s : Int), n ≤ d → l.length + d ≤ 5 → Src c a s → ∃ r, Ev (fun k => spec_DrawPartsThickness.l0 k l n c a s) r ∧ r.length ≤ 11 := by
  intro d
  induction d with
  | zero =>
    intro l n a s hn hl h
    obtain ⟨v1, a1, s1, e1, h1, _⟩ := draw_next h 30
    by_cases g0 : v1 = 0
    · obtain ⟨v2, a2, s2, e2, h2, _⟩ := draw_pick h1 [0, 4096, 4097] (by decide) (by decide)
      refine ⟨l ++ [⟨v2, ⟨100, 100⟩⟩], Ev.step (fun k => by rw [spec_DrawPartsThickness.l0]) ?_, by simp; omega⟩
      simp only [if_neg (show ¬ n > 0 by omega), e1, Option.bind_some, if_pos g0, e2, if_pos (show l.length < 5864062014805 by omega)]
      exact Ev.now _
    · by_cases g1 : v1 = 1
      · obtain ⟨r, hr, hl'⟩ := draw_parts_l1 (c := c) (11 - l.length) l a1 s1 (by omega) h1
        refine ⟨r, Ev.step (fun k => by rw [spec_DrawPartsThickness.l0]) ?_, hl'⟩
        simp only [if_neg (show ¬ n > 0 by omega), e1, Option.bind_some, if_neg g0, if_pos g1]
        exact hr
      · refine ⟨l, Ev.step (fun k => by rw [spec_DrawPartsThickness.l0]) ?_, by omega⟩
        simp only [if_neg (show ¬ n > 0 by omega), e1, Option.bind_some, if_neg g0, if_neg g1]
        exact Ev.now _
  | succ d ih =>
    intro l n a s hn hl h
    by_cases hp : n > 0
    · obtain ⟨v1, a1, s1, e1, h1, _, k1⟩ := draw_next h 300
      obtain ⟨g, b, a2, s2, e2, h2, _⟩ := draw_paper h1
      obtain ⟨r, hr, hl'⟩ := ih (l ++ [⟨wrap64 (1 + v1), ⟨g, b⟩⟩]) (n - 1) a2 s2 (by omega) (by simp; omega) h2
      refine ⟨r, Ev.step (fun k => by rw [spec_DrawPartsThickness.l0]) ?_, hl'⟩
      simp only [if_pos hp, e1, e2, Option.bind_some, if_pos (show l.length < 5864062014805 by omega), w64 (x := n - 1) (by omega) (by omega)]
      exact hr
    · exact ih l n a s (by omega) (by omega) h
theorem draw_parts (c : List Int) (hb : ∀ x ∈ c, (Lit.int .u8 x).wf = true) (hl : c.length ≤ 4096) : ∃ r, Ev (fun k => spec_DrawPartsThickness.f k c) r ∧ r.length ≤ 11 := by
  obtain ⟨s0, h0, hs0⟩ := draw_from c hb hl
  obtain ⟨v1, a1, s1, e1, h1, _, hv⟩ := draw_next hs0 5
  obtain ⟨k0, k1⟩ := hv (by omega)
  obtain ⟨r, hr, hl'⟩ := draw_parts_l0 (c := c) 5 [] v1 a1 s1 (by omega) (by simp) h1
  refine ⟨r, ?_, hl'⟩
  simp only [spec_DrawPartsThickness.f]
  refine Ev.bind h0 ?_
  simp only [e1, Option.bind_some]
  exact hr
theorem draw_stack (c : List Int) (hb : ∀ x ∈ c, (Lit.int .u8 x).wf = true) (hl : c.length ≤ 4096) : ∃ g b x y n, Ev (fun k => spec_DrawStackWeight.f k c) (g, b, x, y, n) := by
  obtain ⟨s0, h0, hs0⟩ := draw_from c hb hl
  obtain ⟨g, b, a1, s1, e1, h1, _⟩ := draw_paper hs0
  obtain ⟨x, y, a2, s2, e2, h2⟩ := draw_sheet h1
  obtain ⟨v3, a3, s3, e3, h3, _⟩ := draw_next h2 5000
  obtain ⟨v4, a4, s4, e4, h4, _⟩ := draw_next h3 5000
  obtain ⟨v5, a5, s5, e5, h5, _⟩ := draw_pick h4 [-1, 0, 1000000, 1000001] (by decide) (by decide)
  obtain ⟨v6, a6, s6, e6, h6, _⟩ := draw_pick h5 [v3, v4, v5] (by simp) (by simp)
  refine ⟨g, b, x, y, v6, ?_⟩
  simp only [spec_DrawStackWeight.f]
  refine Ev.bind h0 ?_
  simp only [e1, e2, e3, e4, e5, e6, Option.bind_some]
  exact Ev.now _
theorem draw_sheetw (c : List Int) (hb : ∀ x ∈ c, (Lit.int .u8 x).wf = true) (hl : c.length ≤ 4096) : ∃ g b x y, Ev (fun k => spec_DrawSheetWeight.f k c) (g, b, x, y) := by
  obtain ⟨s0, h0, hs0⟩ := draw_from c hb hl
  obtain ⟨g, b, a1, s1, e1, h1, _⟩ := draw_paper hs0
  obtain ⟨x, y, a2, s2, e2, h2⟩ := draw_sheet h1
  refine ⟨g, b, x, y, ?_⟩
  simp only [spec_DrawSheetWeight.f]
  refine Ev.bind h0 ?_
  simp only [e1, e2, Option.bind_some]
  exact Ev.now _
theorem draw_height (c : List Int) (hb : ∀ x ∈ c, (Lit.int .u8 x).wf = true) (hl : c.length ≤ 4096) : ∃ g b n, Ev (fun k => spec_DrawSheetsInHeight.f k c) (g, b, n) := by
  obtain ⟨s0, h0, hs0⟩ := draw_from c hb hl
  obtain ⟨g, b, a1, s1, e1, h1, _⟩ := draw_paper hs0
  obtain ⟨v3, a3, s3, e3, h3, _⟩ := draw_next h1 20000
  obtain ⟨v4, a4, s4, e4, h4, _⟩ := draw_next h3 20000
  obtain ⟨v5, a5, s5, e5, h5, _⟩ := draw_pick h4 [-1, 0, 1000000000, 1000000001] (by decide) (by decide)
  obtain ⟨v6, a6, s6, e6, h6, _⟩ := draw_pick h5 [v3, v4, v5] (by simp) (by simp)
  refine ⟨g, b, v6, ?_⟩
  simp only [spec_DrawSheetsInHeight.f]
  refine Ev.bind h0 ?_
  simp only [e1, e3, e4, e5, e6, Option.bind_some]
  exact Ev.now _
theorem paperB_range {a b : Int} (h : paperB a b = true) : 30 ≤ a ∧ a ≤ 500 ∧ 50 ≤ b ∧ b ≤ 300 := by
  simp only [paperB, Bool.and_eq_true, inR_iff] at h
  omega
theorem thick_range {a b : Int} (h : paperB a b = true) : 15 ≤ thick2 a b ∧ thick2 a b ≤ 1500 := by
  obtain ⟨h1, h2, h3, h4⟩ := paperB_range h
  have p1 := mul_bound (a := a) (b := b) (by omega) h2 (by omega) h4
  have p2 : 30 * 50 ≤ a * b := Int.mul_le_mul h1 h3 (by omega) (by omega)
  unfold thick2
  rw [w64 (x := a * b) (by omega) (by omega), w64 (x := a * b + 50) (by omega) (by omega), Int.tdiv_eq_ediv_of_nonneg (by omega), w64 (by omega) (by omega)]
  omega
def pieceB (a b : Int) : Bool := inR a 1 20000 && inR b 1 20000
theorem spec_IsPiece (a b : Int) : spec_IsPiece.f a b = some (pieceB a b) := by
  simp only [spec_IsPiece.f, l01In, Option.bind_some, pieceB]
  cases inR a 1 20000 <;> cases inR b 1 20000 <;> rfl
theorem impl_IsPiece (a b : Int) : impl_IsPiece.f a b = some (pieceB a b) := by
  simp only [impl_IsPiece.f, inRange, Option.bind_some, pieceB]
  cases inR a 1 20000 <;> cases inR b 1 20000 <;> rfl
def stackB (g b x y n : Int) : Int × Int :=
  if paperB g b = true ∧ pieceB x y = true then (if inR n 0 1000000 = true then (quo (wrap64 ((wrap64 ((wrap64 (n * x)) * y)) * g)) 100000000, 0) else (0, 2)) else (0, 1)
theorem spec_Stack (g b x y n : Int) : Ev (fun k => spec_StackWeight.f k g b x y n) (stackB g b x y n) := by
  simp only [spec_StackWeight.f, spec_IsPaper, spec_IsPiece, Option.bind_some, stackB]
  cases h1 : paperB g b <;> cases h2 : pieceB x y <;> simp only [Bool.false_eq_true, if_false, if_true, Bool.not_false, Bool.not_true, false_and, and_false, and_self]
  · exact Ev.step (fun k => by rw [spec_StackWeight.j0, if_pos rfl]) (Ev.now _)
  · exact Ev.step (fun k => by rw [spec_StackWeight.j0, if_pos rfl]) (Ev.now _)
  · exact Ev.step (fun k => by rw [spec_StackWeight.j0, if_pos rfl]) (Ev.now _)
  · refine Ev.step (fun k => by rw [spec_StackWeight.j0]) ?_
    simp only [Bool.false_eq_true, if_false, l01In, Option.bind_some, l01Ceil _ 100000000 (by decide)]
    cases inR n 0 1000000 <;> simp only [Bool.false_eq_true, if_false, if_true] <;> exact Ev.now _
theorem impl_Stack (g b x y n : Int) : Ev (fun k => impl_StackWeight.f k g b x y n) (stackB g b x y n) := by
  simp only [impl_StackWeight.f, impl_IsPaper, impl_IsPiece, Option.bind_some, stackB]
  cases h1 : paperB g b <;> cases h2 : pieceB x y <;> simp only [Bool.false_eq_true, if_false, if_true, Bool.not_false, Bool.not_true, false_and, and_false, and_self]
  · exact Ev.step (fun k => by rw [impl_StackWeight.j0, if_pos rfl]) (Ev.now _)
  · exact Ev.step (fun k => by rw [impl_StackWeight.j0, if_pos rfl]) (Ev.now _)
  · exact Ev.step (fun k => by rw [impl_StackWeight.j0, if_pos rfl]) (Ev.now _)
  · refine Ev.step (fun k => by rw [impl_StackWeight.j0]) ?_
    simp only [Bool.false_eq_true, if_false, inRange, Option.bind_some, quotient _ 100000000 (by decide)]
    cases inR n 0 1000000 <;> simp only [Bool.false_eq_true, if_false, if_true] <;> exact Ev.now _
theorem sheet_same (g b x y : Int) : ∃ r, impl_SheetWeight.f g b x y = some r ∧ spec_SheetWeight.f g b x y = some r := by
  simp only [impl_SheetWeight.f, spec_SheetWeight.f, impl_IsPaper, impl_IsPiece, spec_IsPaper, spec_IsPiece, Option.bind_some, l01Ceil _ 100000 (by decide), quotient _ 100000 (by decide)]
  cases h1 : paperB g b <;> cases h2 : pieceB x y <;> simp only [Bool.false_eq_true, if_false, if_true] <;> exact ⟨_, rfl, rfl⟩
def heightB (g b n : Int) : Int × Int := if paperB g b = true then (if inR n 0 1000000000 = true then (100 * n / thick2 g b, 0) else (0, 2)) else (0, 1)
theorem spec_Height (g b n : Int) : spec_SheetsInHeight.f g b n = some (heightB g b n) := by
  simp only [spec_SheetsInHeight.f, spec_IsPaper, l01In, thick2_s, Option.bind_some, heightB]
  cases h1 : paperB g b <;> cases h2 : inR n 0 1000000000 <;> simp only [Bool.false_eq_true, if_false, if_true]
  have ht := thick_range h1
  have hn := inR_iff.1 h2
  have := Int.ediv_nonneg (a := 100 * n) (b := thick2 g b) (by omega) (by omega)
  have := Int.ediv_le_self (a := 100 * n) (thick2 g b) (by omega)
  rw [if_neg (by omega), w64 (x := 100 * n) (by omega) (by omega), Int.tdiv_eq_ediv_of_nonneg (by omega), w64 (by omega) (by omega)]
theorem impl_Height (g b n : Int) : impl_SheetsInHeight.f g b n = some (heightB g b n) := by
  rw [← spec_Height]
  simp only [impl_SheetsInHeight.f, spec_SheetsInHeight.f, impl_IsPaper, spec_IsPaper, impl_isLength.f, inRange, l01In, thick2_s, thick2_i, Option.bind_some, Int.mul_comm n 100]
theorem impl_PaperThickness (g b : Int) : impl_PaperThickness.f g b = some (if paperB g b = true then (thick2 g b, 0) else (0, 1)) := by
  simp only [impl_PaperThickness.f, impl_IsPaper, thick2_i, Option.bind_some]
  split <;> rfl
theorem block_range {p t : Int} (hp : inR p 1 4096 = true) (h0 : 15 ≤ t) (h1 : t ≤ 1500) : 0 ≤ blockB p t ∧ blockB p t ≤ 3072000 ∧ impl_BlockThickness.f p t = some (blockB p t, 0) := by
  have hp' := inR_iff.1 hp
  have e : blockB p t = (p + 1) / 2 * t := by
    have m := mul_bound (a := (p + 1) / 2) (b := t) (A := 2048) (B := 1500) (by omega) (by omega) (by omega) h1
    unfold blockB
    rw [w64 (x := p + 1) (by omega) (by omega), Int.tdiv_eq_ediv_of_nonneg (by omega), w64 (x := (p + 1) / 2) (by omega) (by omega), w64 (by omega) (by omega)]
  have m := mul_bound (a := (p + 1) / 2) (b := t) (A := 2048) (B := 1500) (by omega) (by omega) (by omega) h1
  rw [e]
  refine ⟨m.1, by omega, ?_⟩
  have ht : inR t 1 2000 = true := inR_iff.2 (by omega)
  simp only [impl_BlockThickness.f, impl_isPages.f, impl_isThickness.f, inRange, hp, ht, Option.bind_some, if_true, block_i, e]
/-- The last part of the law: the weight of a stack. -/
theorem stack_fin {g b x y n : Int} (h : (stackB g b x y n).2 = 0) : wrap64 (100000000 * (stackB g b x y n).1) ≥ wrap64 ((wrap64 ((wrap64 (n * x)) * y)) * g) ∧ wrap64 (100000000 * (wrap64 ((stackB g b x y n).1 - 1))) < wrap64 ((wrap64 ((wrap64 (n * x)) * y)) * g) := by
  unfold stackB at h ⊢
  by_cases h1 : paperB g b = true ∧ pieceB x y = true
  · rw [if_pos h1] at h ⊢
    by_cases h2 : inR n 0 1000000 = true
    · rw [if_pos h2] at h ⊢
      obtain ⟨g0, g1, _, _⟩ := paperB_range h1.1
      obtain ⟨n0, n1⟩ := inR_iff.1 h2
      have hp := h1.2
      simp only [pieceB, Bool.and_eq_true, inR_iff] at hp
      have m1 := mul_bound (a := n) (b := x) (A := 1000000) (B := 20000) n0 n1 (by omega) (by omega)
      have m2 := mul_bound (a := n * x) (b := y) (A := 20000000000) (B := 20000) m1.1 (by omega) (by omega) (by omega)
      have m3 := mul_bound (a := n * x * y) (b := g) (A := 400000000000000) (B := 500) m2.1 (by omega) (by omega) (by omega)
      rw [w64 (x := n * x) (by omega) (by omega), w64 (x := n * x * y) (by omega) (by omega), w64 (x := n * x * y * g) (by omega) (by omega), quo_eq m3.1 (by omega) (by omega) (by omega)]
      generalize n * x * y * g = P at m3
      rw [w64 (x := (P + 100000000 - 1) / 100000000 - 1) (by omega) (by omega), w64 (x := 100000000 * ((P + 100000000 - 1) / 100000000)) (by omega) (by omega), w64 (x := 100000000 * ((P + 100000000 - 1) / 100000000 - 1)) (by omega) (by omega)]
      omega
    · rw [if_neg h2] at h
      simp at h
  · rw [if_neg h1] at h
    simp at h
theorem partF_range : ∀ (l : List S71) (acc : Int), l.all okPart = true → 0 ≤ acc → acc + 3072000 * (l.length : Int) ≤ 1000000000000 → 0 ≤ l.foldl partF acc ∧ l.foldl partF acc ≤ acc + 3072000 * (l.length : Int) := by
  intro l
  induction l with
  | nil => intro acc _ h0 _; simp; omega
  | cons x l ih =>
    intro acc ha h0 hb
    simp only [List.all_cons, Bool.and_eq_true] at ha
    have hx := ha.1
    simp only [okPart, Bool.and_eq_true] at hx
    obtain ⟨t0, t1⟩ := thick_range hx.2
    obtain ⟨b0, b1, _⟩ := block_range hx.1 t0 t1
    simp only [List.length_cons] at hb
    have e : partF acc x = acc + blockB x.f0 (thick2 x.f1.f0 x.f1.f1) := w64 (by omega) (by omega)
    have := ih (partF acc x) ha.2 (by omega) (by omega)
    simp only [List.foldl_cons, List.length_cons]
    omega
theorem FnWeights : laws_FnWeights.Pure := by
  intro c hl hb
  refine Ev.rounds (g := fun k => laws_FnWeights.f k c) ?_
  simp only [laws_FnWeights.f, laws_big.f, Option.bind_some]
  by_cases hbig : (c.length : Int) > 4096
  · simp only [decide_eq_true hbig, if_true]
    exact Ev.now _
  simp only [decide_eq_false hbig, Bool.false_eq_true, if_false]
  obtain ⟨g, b, x, y, n, d1⟩ := draw_stack c hb (by omega)
  obtain ⟨g2, b2, x2, y2, d2⟩ := draw_sheetw c hb (by omega)
  obtain ⟨g3, b3, n3, d3⟩ := draw_height c hb (by omega)
  obtain ⟨l, d4, hl11⟩ := draw_parts c hb (by omega)
  obtain ⟨sr, e1, e2⟩ := sheet_same g2 b2 x2 y2
  have p1 := impl_PartsThickness l (by omega)
  have p2 := spec_PartsThickness l (by omega)
  refine Ev.bind d1 ?_
  refine Ev.bind (impl_Stack g b x y n) ?_
  refine Ev.bind (spec_Stack g b x y n) ?_
  refine Ev.bind d2 ?_
  simp only [e1, e2, Option.bind_some]
  refine Ev.bind d3 ?_
  simp only [impl_Height, spec_Height, Option.bind_some]
  refine Ev.bind d4 ?_
  refine Ev.bind p1 ?_
  refine Ev.bind p2 ?_
  simp only [if_true, bne_self_eq_false]
  have hfin : ∀ k : Nat, (if (stackB g b x y n).2 = 0 then (if (wrap64 (100000000 * (stackB g b x y n).1)) ≥ (wrap64 ((wrap64 ((wrap64 (n * x)) * y)) * g)) then (some (decide ((wrap64 (100000000 * (wrap64 ((stackB g b x y n).1 - 1)))) < (wrap64 ((wrap64 ((wrap64 (n * x)) * y)) * g))))) else (some false)) else (some true)) = some true := by
    intro k
    by_cases h0 : (stackB g b x y n).2 = 0
    · obtain ⟨f1, f2⟩ := stack_fin h0
      rw [if_pos h0, if_pos f1, decide_eq_true f2]
    · rw [if_neg h0]
  have J1 : Ev (fun k => laws_FnWeights.j1 k n (stackB g b x y n).1 (stackB g b x y n).2 l (if l.all okPart = true ∧ inR (l.length : Int) 1 10 = true then (quo (l.foldl partF 0) 100, (0 : Int)) else (0, 1)).1 (if l.all okPart = true ∧ inR (l.length : Int) 1 10 = true then (quo (l.foldl partF 0) 100, (0 : Int)) else (0, 1)).2 g b x y) true := by
    refine Ev.step (fun k => by rw [laws_FnWeights.j1]) ?_
    by_cases hp : l.all okPart = true ∧ inR (l.length : Int) 1 10 = true
    · simp only [if_pos hp, if_true]
      have hr := partF_range l 0 hp.1 (by omega) (by omega)
      have hq : quo (l.foldl partF 0) 100 = (l.foldl partF 0 + 100 - 1) / 100 := quo_eq hr.1 (by omega) (by omega) (by omega)
      have H := loop_list l (fun p s => ∀ acc, s.foldl partF acc = l.foldl partF 0 → Ev (fun k => laws_FnWeights.l0 k n (stackB g b x y n).1 (stackB g b x y n).2 l (quo (l.foldl partF 0) 100) acc (p.length : Int) g b x y) true) ?_ ?_ 0 rfl
      · exact H
      · intro acc ha
        simp only [List.foldl_nil] at ha
        refine Ev.step (fun k => by rw [laws_FnWeights.l0]) ?_
        rw [ha, hq]
        generalize l.foldl partF 0 = T at hr
        have e3 : wrap64 (100 * ((T + 100 - 1) / 100)) = 100 * ((T + 100 - 1) / 100) := w64 (by omega) (by omega)
        have e4 : wrap64 (T + 100) = T + 100 := w64 (by omega) (by omega)
        simp only [if_neg (nlt_self l), e3, e4, if_neg (show ¬ (100 * ((T + 100 - 1) / 100) < T) by omega), if_neg (show ¬ (100 * ((T + 100 - 1) / 100) ≥ T + 100) by omega)]
        exact ev_of hfin
      · intro p z s he ih acc ha
        have hz := (List.all_eq_true.1 hp.1) z (by rw [he]; simp)
        simp only [okPart, Bool.and_eq_true] at hz
        obtain ⟨t0, t1⟩ := thick_range hz.2
        obtain ⟨b0, b1, eb⟩ := block_range hz.1 t0 t1
        refine Ev.step (fun k => by rw [laws_FnWeights.l0]) ?_
        simp only [if_pos (mid_lt he), if_pos (nat_nn p.length), rd_T71, mid_get he, impl_PaperThickness, hz.2, if_true, Option.bind_some, eb, mid_next he (by omega)]
        exact ih _ (by simpa [partF] using ha)
    · simp only [if_neg hp, show ¬ ((1 : Int) = 0) by omega, if_false]
      exact ev_of hfin
  refine Ev.step (fun k => by rw [laws_FnWeights.j0]) ?_
  simp only [Bool.false_eq_true, if_false]
  by_cases h3 : (heightB g3 b3 n3).2 = 0
  · have hp3 : paperB g3 b3 = true := by
      unfold heightB at h3
      by_cases h : paperB g3 b3 = true
      · exact h
      · rw [if_neg h] at h3; simp at h3
    have hn3 : inR n3 0 1000000000 = true := by
      unfold heightB at h3
      rw [if_pos hp3] at h3
      by_cases h : inR n3 0 1000000000 = true
      · exact h
      · rw [if_neg h] at h3; simp at h3
    have eh : heightB g3 b3 n3 = (100 * n3 / thick2 g3 b3, 0) := by unfold heightB; rw [if_pos hp3, if_pos hn3]
    obtain ⟨t0, t1⟩ := thick_range hp3
    obtain ⟨n0, n1⟩ := inR_iff.1 hn3
    have q0 := Int.ediv_nonneg (a := 100 * n3) (b := thick2 g3 b3) (by omega) (by omega)
    have q1 := Int.ediv_le_self (a := 100 * n3) (thick2 g3 b3) (by omega)
    have q2 := Int.mul_ediv_add_emod (100 * n3) (thick2 g3 b3)
    have q3 := Int.emod_nonneg (100 * n3) (show thick2 g3 b3 ≠ 0 by omega)
    have q4 := Int.emod_lt_of_pos (100 * n3) (show 0 < thick2 g3 b3 by omega)
    have q5 : (100 * n3 / thick2 g3 b3 + 1) * thick2 g3 b3 = thick2 g3 b3 * (100 * n3 / thick2 g3 b3) + thick2 g3 b3 := by rw [Int.add_mul, Int.one_mul, Int.mul_comm]
    have q6 : (100 * n3 / thick2 g3 b3) * thick2 g3 b3 = thick2 g3 b3 * (100 * n3 / thick2 g3 b3) := Int.mul_comm _ _
    have w1 : wrap64 (100 * n3) = 100 * n3 := w64 (by omega) (by omega)
    have w2 : wrap64 (100 * n3 / thick2 g3 b3 * thick2 g3 b3) = 100 * n3 / thick2 g3 b3 * thick2 g3 b3 := w64 (by omega) (by omega)
    have w3 : wrap64 (100 * n3 / thick2 g3 b3 + 1) = 100 * n3 / thick2 g3 b3 + 1 := w64 (by omega) (by omega)
    have w4 : wrap64 ((100 * n3 / thick2 g3 b3 + 1) * thick2 g3 b3) = (100 * n3 / thick2 g3 b3 + 1) * thick2 g3 b3 := w64 (by omega) (by omega)
    simp only [eh, if_true, impl_PaperThickness, hp3, Option.bind_some, w1, w2, w3, w4, if_neg (show ¬ (100 * n3 / thick2 g3 b3 * thick2 g3 b3 > 100 * n3) by omega), if_neg (show ¬ ((100 * n3 / thick2 g3 b3 + 1) * thick2 g3 b3 ≤ 100 * n3) by omega)]
    exact J1
  · simp only [if_neg h3]
    exact J1

end Go.Proofs.Ytdgacclmnfpajaa.Pure
