/- The pure statement of law FnBreakEven: what the printed functions compute answers true at every input. No condition. -/
import Derived.Test.YthfgdcnngklfoaaPFnBreakEvenx4
set_option linter.unusedVariables false
set_option linter.unusedSimpArgs false
namespace Go.Proofs.Ythfgdcnngklfoaa.Pure
open Go.RowKit Go.Proofs.Ythfgdcnngklfoaa.PFnBreakEven Go.Proofs.YthfgdcnngklfoaaW.PrintWords Go.Proofs.YthfgdcnngklfoaaW.PrintLast Go.Proofs.YthfgdcnngklfoaaW.PrintMore


/-! #### Numbers and rounds -/
theorem w64 {x : Int} (h1 : -9223372036854775808 ≤ x) (h2 : x ≤ 9223372036854775807) : wrap64 x = x := by
  unfold wrap64
  omega
theorem wf64 {x : Int} (h : (Lit.int .i64 x).wf = true) : -9223372036854775808 ≤ x ∧ x ≤ 9223372036854775807 := by
  simp only [Lit.wf, IntKind.min, IntKind.max, IntKind.signed, IntKind.bits, Bool.and_eq_true, decide_eq_true_eq, if_true] at h
  omega
theorem ev_of {α : Type} {g : Nat → Option α} {r : α} (h : ∀ k, g k = some r) : Ev g r := ⟨0, fun k _ => h k⟩
theorem ev_eq {α : Type} {g : Nat → Option α} {r r' : α} (h : Ev g r) (e : r = r') : Ev g r' := e ▸ h
/-- A loop over a list: what lies behind, what lies ahead. -/
theorem loop_list {α : Type} (l : List α) (Q : List α → List α → Prop) (h0 : Q l []) (hs : ∀ p x s, l = p ++ x :: s → Q (p ++ [x]) s → Q p (x :: s)) : Q [] l := by
  have h : ∀ s p, l = p ++ s → Q p s := by
    intro s
    induction s with
    | nil => intro p hp; rw [List.append_nil] at hp; rw [← hp]; exact h0
    | cons x s ih => intro p hp; exact hs p x s hp (ih (p ++ [x]) (by simp [hp]))
  exact h l [] rfl
theorem mid_lt {α : Type} {l p s : List α} {x : α} (h : l = p ++ x :: s) : (p.length : Int) < (l.length : Int) := by
  rw [h, List.length_append, List.length_cons]; omega
theorem mid_next {α : Type} {l p s : List α} {x : α} (h : l = p ++ x :: s) (hl : l.length ≤ 9223372036854775807) : wrap64 ((p.length : Int) + 1) = ((p ++ [x]).length : Int) := by
  have := mid_lt h
  rw [w64 (by omega) (by omega), List.length_append]; simp
theorem mid_get {α : Type} {l p s : List α} {x : α} (h : l = p ++ x :: s) (z : α) : l.getD (p.length : Int).toNat z = x := by
  rw [h]; simp
theorem get_mid {α : Type} (p s : List α) (x z : α) : (p ++ x :: s).getD (p.length : Int).toNat z = x := by simp
theorem nat_nn (n : Nat) : (0 : Int) ≤ (n : Int) := by omega
theorem nlt_self {α : Type} (l : List α) : ¬ ((l.length : Int) < (l.length : Int)) := by omega
theorem set_mid {α : Type} (p s : List α) (x y : α) : (p ++ x :: s).set ((p.length : Int).toNat) y = p ++ y :: s := by
  rw [Int.toNat_natCast, List.set_append_right _ _ (Nat.le_refl _)]; simp
theorem nil_or_snoc {α : Type} (p : List α) : p = [] ∨ ∃ q y, p = q ++ [y] := by
  rcases List.eq_nil_or_concat p with h | ⟨q, y, h⟩
  · exact .inl h
  · exact .inr ⟨q, y, by rw [h, List.concat_eq_append]⟩
theorem loop_all {α : Type} (l : List α) (Q : List α → List α → Prop) (h0 : Q l []) (hs : ∀ p x s, l = p ++ x :: s → Q (p ++ [x]) s → Q p (x :: s)) : ∀ s p, l = p ++ s → Q p s := by
  intro s
  induction s with
  | nil => intro p hp; rw [List.append_nil] at hp; rw [← hp]; exact h0
  | cons x s ih => intro p hp; exact hs p x s hp (ih (p ++ [x]) (by simp [hp]))
def inR (a lo hi : Int) : Bool := decide (lo ≤ a) && decide (a ≤ hi)
theorem inR_iff {a lo hi : Int} : inR a lo hi = true ↔ lo ≤ a ∧ a ≤ hi := by simp [inR]
theorem l01In (a lo hi : Int) : spec_l01In.f a lo hi = some (inR a lo hi) := by
  unfold spec_l01In.f inR
  split
  · rename_i h; rw [decide_eq_true (show lo ≤ a from h), Bool.true_and]
  · rename_i h; rw [decide_eq_false (show ¬ lo ≤ a from h), Bool.false_and]
theorem inRange (a lo hi : Int) : impl_inRange.f a lo hi = some (inR a lo hi) := by
  unfold impl_inRange.f inR
  split
  · rename_i h; rw [decide_eq_true (show lo ≤ a from h), Bool.true_and]
  · rename_i h; rw [decide_eq_false (show ¬ lo ≤ a from h), Bool.false_and]
def quo (a b : Int) : Int := wrap64 (Int.tdiv (wrap64 ((wrap64 (a + b)) - 1)) b)
theorem l01Ceil (a b : Int) (h : b ≠ 0) : spec_l01Ceil.f a b = some (quo a b) := by
  unfold spec_l01Ceil.f
  rw [if_neg h]
  rfl
theorem quotient (a b : Int) (h : b ≠ 0) : impl_quotient.f a b = some (quo a b) := by
  unfold impl_quotient.f
  rw [if_neg h]
  rfl
theorem ceil_eq {n k : Int} (hk : 1 ≤ k) : (n + k - 1) / k = n / k + (if 0 < n % k then 1 else 0) := by
  have h1 := Int.emod_nonneg n (show k ≠ 0 by omega)
  have h2 := Int.emod_lt_of_pos n (show 0 < k by omega)
  have h3 := Int.mul_ediv_add_emod n k
  have e : n + k - 1 = (n % k + k - 1) + k * (n / k) := by omega
  rw [e, Int.add_mul_ediv_left _ _ (show k ≠ 0 by omega)]
  by_cases h : 0 < n % k
  · rw [if_pos h]
    have : (n % k + k - 1) / k = 1 := by
      rw [show n % k + k - 1 = (n % k - 1) + k * 1 by omega, Int.add_mul_ediv_left _ _ (show k ≠ 0 by omega), Int.ediv_eq_zero_of_lt (by omega) (by omega)]
      rfl
    omega
  · rw [if_neg h]
    have : (n % k + k - 1) / k = 0 := Int.ediv_eq_zero_of_lt (by omega) (by omega)
    omega
theorem quo_eq {a b : Int} (h0 : 0 ≤ a) (h1 : a ≤ 4000000000000000000) (hb : 1 ≤ b) (hb1 : b ≤ 4000000000000000000) : quo a b = (a + b - 1) / b := by
  unfold quo
  rw [w64 (x := a + b) (by omega) (by omega), w64 (x := a + b - 1) (by omega) (by omega), Int.tdiv_eq_ediv_of_nonneg (by omega)]
  have := Int.ediv_le_self (a := a + b - 1) b (by omega)
  have := Int.ediv_nonneg (a := a + b - 1) (b := b) (by omega) (by omega)
  rw [w64 (by omega) (by omega)]
/-- What a rounded up division is: the least number whose product is enough. -/
theorem ceil_spec {a b : Int} (hb : 1 ≤ b) : a ≤ ((a + b - 1) / b) * b ∧ ((a + b - 1) / b) * b < a + b := by
  have h1 := Int.mul_ediv_add_emod (a + b - 1) b
  have h2 := Int.emod_nonneg (a + b - 1) (show b ≠ 0 by omega)
  have h3 := Int.emod_lt_of_pos (a + b - 1) (show 0 < b by omega)
  rw [Int.mul_comm]
  constructor <;> omega
/-- A source that stands somewhere in its code. -/
def Src (c : List Int) (a s : Int) : Prop := (∀ x ∈ c, 0 ≤ x ∧ x ≤ 255) ∧ c.length ≤ 4096 ∧ 0 ≤ a ∧ a ≤ (c.length : Int) ∧ 0 ≤ s ∧ s < 2147483647
theorem rd_byte {c : List Int} (h : ∀ x ∈ c, 0 ≤ x ∧ x ≤ 255) (i : Int) : 0 ≤ rd c i ∧ rd c i ≤ 255 := by
  unfold rd
  rw [List.getD_eq_getElem?_getD]
  cases e : c[i.toNat]? with
  | none => simp
  | some v => exact h v (List.mem_of_getElem? e)
theorem tmod_range {x n : Int} (hx : 0 ≤ x) (hn : 1 < n) : 0 ≤ Int.tmod x n ∧ Int.tmod x n < n := by
  rw [Int.tmod_eq_emod_of_nonneg hx]
  exact ⟨Int.emod_nonneg _ (by omega), Int.emod_lt_of_pos _ (by omega)⟩
theorem seed_step {s : Int} (h0 : 0 ≤ s) (h1 : s < 2147483647) : 0 ≤ Int.tmod (wrap64 ((wrap64 (s * 48271)) + 61)) 2147483647 ∧ Int.tmod (wrap64 ((wrap64 (s * 48271)) + 61)) 2147483647 < 2147483647 := by
  rw [w64 (x := s * 48271) (by omega) (by omega), w64 (by omega) (by omega)]
  exact tmod_range (by omega) (by omega)
theorem draw_next {c : List Int} {a s : Int} (h : Src c a s) (n : Int) : ∃ v a' s', spec_l01Next.f c a s n = some (v, a', s') ∧ Src c a' s' ∧ (n ≤ 1 → v = 0) ∧ (1 < n → 0 ≤ v ∧ v < n) := by
  obtain ⟨hb, hl, ha, ha1, hs, hs1⟩ := h
  by_cases hn : n ≤ 1
  · exact ⟨0, a, s, by simp only [spec_l01Next.f, if_pos hn], ⟨hb, hl, ha, ha1, hs, hs1⟩, fun _ => rfl, fun h => by omega⟩
  · have hn0 : ¬ n = 0 := by omega
    obtain ⟨k0, k1⟩ := seed_step hs hs1
    generalize hk : Int.tmod (wrap64 ((wrap64 (s * 48271)) + 61)) 2147483647 = t at k0 k1
    have hx : Int.tdiv t 31 = t / 31 := Int.tdiv_eq_ediv_of_nonneg k0
    have hx1 : wrap64 (t / 31) = t / 31 := w64 (by omega) (by omega)
    by_cases hlt : a < (c.length : Int)
    · have e1 : wrap64 (a + 1) = a + 1 := w64 (by omega) (by omega)
      have e2 : wrap64 (a + 1 - 1) = a := by rw [show a + 1 - 1 = a by omega]; exact w64 (by omega) (by omega)
      obtain ⟨b0, b1⟩ := rd_byte hb a
      have e3 : wrap64 (rd c a) = rd c a := w64 (by omega) (by omega)
      have e4 : wrap64 (t / 31 + rd c a) = t / 31 + rd c a := w64 (by omega) (by omega)
      have hS : Src c (a + 1) t := ⟨hb, hl, by omega, by omega, k0, k1⟩
      by_cases h256 : n ≤ 256
      · by_cases he : Int.tmod (a + 1) 2 = 0
        · refine ⟨Int.tmod (rd c a) n, a + 1, t, ?_, hS, fun h => by omega, fun h => tmod_range b0 h⟩
          simp only [spec_l01Next.f, if_neg hn, if_pos hlt, if_pos ha, if_pos h256, e1, e2, e3, hk, if_pos he, if_neg hn0]
        · refine ⟨Int.tmod (t / 31 + rd c a) n, a + 1, t, ?_, hS, fun h => by omega, fun h => tmod_range (by omega) h⟩
          simp only [spec_l01Next.f, if_neg hn, if_pos hlt, if_pos ha, if_pos h256, e1, e2, e3, e4, hk, hx, hx1, if_neg he, if_neg hn0]
      · refine ⟨Int.tmod (t / 31 + rd c a) n, a + 1, t, ?_, hS, fun h => by omega, fun h => tmod_range (by omega) h⟩
        simp only [spec_l01Next.f, if_neg hn, if_pos hlt, if_pos ha, if_neg h256, e1, e3, e4, hk, hx, hx1, if_neg hn0]
    · refine ⟨Int.tmod (t / 31) n, a, t, ?_, ⟨hb, hl, ha, ha1, k0, k1⟩, fun h => by omega, fun h => tmod_range (by omega) h⟩
      simp only [spec_l01Next.f, if_neg hn, if_neg hlt, hk, hx, hx1, if_neg hn0]
theorem draw_pick {c : List Int} {a s : Int} (h : Src c a s) (l : List Int) (h0 : 0 < l.length) (h1 : l.length ≤ 1000) : ∃ v a' s', spec_l01Pick.f c a s l = some (v, a', s') ∧ Src c a' s' ∧ v ∈ l := by
  obtain ⟨v, a', s', e, hS, hv0, hv1⟩ := draw_next h (l.length : Int)
  have hv : 0 ≤ v ∧ v < (l.length : Int) := by
    by_cases hn : (l.length : Int) ≤ 1
    · have := hv0 hn; omega
    · exact hv1 (by omega)
  refine ⟨rd l v, a', s', by simp only [spec_l01Pick.f, e, Option.bind_some, if_pos hv.1, if_pos hv.2], hS, ?_⟩
  have : v.toNat < l.length := by omega
  unfold rd
  rw [List.getD_eq_getElem?_getD, List.getElem?_eq_getElem this]
  exact List.getElem_mem this
theorem draw_from (c : List Int) (hb : ∀ x ∈ c, (Lit.int .u8 x).wf = true) (hl : c.length ≤ 4096) : ∃ s, Ev (fun k => spec_l01From.f k c) (c, 0, s) ∧ Src c 0 s := by
  have hb' : ∀ x ∈ c, 0 ≤ x ∧ x ≤ 255 := by
    intro x hx
    have := hb x hx
    simp only [Lit.wf, IntKind.min, IntKind.max, IntKind.signed, IntKind.bits, Bool.and_eq_true, decide_eq_true_eq] at this
    simp at this
    omega
  have H := loop_list c (fun p t => ∀ s, 0 ≤ s → s < 2147483647 → ∃ s', Ev (fun k => spec_l01From.l0 k c (p.length : Int) c 0 s) (c, 0, s') ∧ 0 ≤ s' ∧ s' < 2147483647) ?_ ?_ 88007 (by omega) (by omega)
  · obtain ⟨s', h, h0, h1⟩ := H
    exact ⟨s', h, hb', hl, by omega, by omega, h0, h1⟩
  · intro s h0 h1
    refine ⟨s, Ev.step (fun k => by rw [spec_l01From.l0]) ?_, h0, h1⟩
    simp only [if_neg (nlt_self c)]
    exact Ev.now _
  · intro p x t he ih s h0 h1
    by_cases h64 : (p.length : Int) < 64
    · have hx : rd c (p.length : Int) = x := mid_get he 0
      obtain ⟨b0, b1⟩ := hb' x (by rw [he]; simp)
      have e : wrap64 (wrap64 (s * 71) + wrap64 x) = s * 71 + x := by rw [w64 (x := s * 71) (by omega) (by omega), w64 (x := x) (by omega) (by omega), w64 (by omega) (by omega)]
      obtain ⟨k0, k1⟩ := tmod_range (x := s * 71 + x) (n := 2147483647) (by omega) (by omega)
      obtain ⟨s', h, g0, g1⟩ := ih (Int.tmod (s * 71 + x) 2147483647) k0 k1
      refine ⟨s', Ev.step (fun k => by rw [spec_l01From.l0]) ?_, g0, g1⟩
      simp only [if_pos (mid_lt he), if_pos h64, if_pos (nat_nn p.length), hx, e, mid_next he (by omega)]
      exact h
    · refine ⟨s, Ev.step (fun k => by rw [spec_l01From.l0]) ?_, h0, h1⟩
      simp only [if_pos (mid_lt he), if_neg h64]
      exact Ev.now _
def stepB (a b c : Int) : Bool := inR a 0 10000 && (inR b 1 100000 && inR c 0 500)
def minB (a b n : Int) : Int := wrap64 (a + quo (wrap64 (60 * n)) b)
theorem stepB_pos {a b c : Int} (h : stepB a b c = true) : b ≠ 0 := by
  simp only [stepB, Bool.and_eq_true, inR_iff] at h
  omega
def codeOf (b : Bool) (n : Int) : Int := if b = true then (if inR n 0 1000000 = true then 0 else 2) else 1
theorem codeOf_zero {b : Bool} {n : Int} (h : codeOf b n = 0) : b = true ∧ 0 ≤ n ∧ n ≤ 1000000 := by
  unfold codeOf at h
  cases b <;> cases h1 : inR n 0 1000000 <;> simp [h1] at h
  exact ⟨rfl, inR_iff.1 h1⟩
theorem ceil_le {a b q : Int} (hb : 1 ≤ b) (h : a ≤ q * b) : (a + b - 1) / b ≤ q := by
  obtain ⟨_, h2⟩ := ceil_spec (a := a) hb
  apply Int.le_of_not_gt
  intro hc
  have := Int.mul_le_mul_of_nonneg_right (show q + 1 ≤ (a + b - 1) / b by omega) (show 0 ≤ b by omega)
  rw [Int.add_mul, Int.one_mul] at this
  omega
theorem lt_ceil {a b q : Int} (hb : 1 ≤ b) (h : q * b < a) : q < (a + b - 1) / b := by
  obtain ⟨h1, _⟩ := ceil_spec (a := a) hb
  apply Int.lt_of_not_ge
  intro hc
  have := Int.mul_le_mul_of_nonneg_right hc (show 0 ≤ b by omega)
  omega
theorem ceil_mono {a a' b : Int} (hb : 1 ≤ b) (h : a ≤ a') : (a + b - 1) / b ≤ (a' + b - 1) / b := Int.ediv_le_ediv (by omega) (by omega)
theorem ceil_anti {a b b' : Int} (ha : 0 ≤ a) (hb : 1 ≤ b) (h : b ≤ b') : (a + b' - 1) / b' ≤ (a + b - 1) / b := by
  apply ceil_le (by omega)
  obtain ⟨h1, _⟩ := ceil_spec (a := a) hb
  have h0 := Int.ediv_nonneg (a := a + b - 1) (b := b) (by omega) (by omega)
  have := Int.mul_le_mul_of_nonneg_left h h0
  omega
theorem stepB_range {a b c : Int} (h : stepB a b c = true) : 0 ≤ a ∧ a ≤ 10000 ∧ 1 ≤ b ∧ b ≤ 100000 ∧ 0 ≤ c ∧ c ≤ 500 := by
  simp only [stepB, Bool.and_eq_true, inR_iff] at h
  omega
theorem minB_eq {a b n : Int} (ha : 0 ≤ a) (ha1 : a ≤ 10000) (hb : 1 ≤ b) (hb1 : b ≤ 100000) (hn : 0 ≤ n) (hn1 : n ≤ 1000000) : minB a b n = a + (60 * n + b - 1) / b ∧ 0 ≤ (60 * n + b - 1) / b ∧ (60 * n + b - 1) / b ≤ 60000000 := by
  have h0 := Int.ediv_nonneg (a := 60 * n + b - 1) (b := b) (by omega) (by omega)
  have h1 : (60 * n + b - 1) / b ≤ 60 * n := ceil_le hb (by
    have := Int.mul_le_mul_of_nonneg_left hb (show 0 ≤ 60 * n by omega)
    omega)
  refine ⟨?_, h0, by omega⟩
  unfold minB
  rw [w64 (x := 60 * n) (by omega) (by omega), quo_eq (by omega) (by omega) hb (by omega), w64 (by omega) (by omega)]
theorem draw_amount {c : List Int} {a s : Int} (h : Src c a s) : ∃ v a' s', spec_l23DrawAmount.f c a s = some (v, a', s') ∧ Src c a' s' := by
  obtain ⟨v1, a1, s1, e1, h1, _⟩ := draw_next h 24
  simp only [spec_l23DrawAmount.f, e1, Option.bind_some]
  by_cases g : v1 = 0
  · obtain ⟨v2, a2, s2, e2, h2, _⟩ := draw_pick h1 [-1, 0, 1000000000000, 1000000000001] (by decide) (by decide)
    exact ⟨v2, a2, s2, by simp only [if_pos g, e2, Option.bind_some], h2⟩
  · obtain ⟨v2, a2, s2, e2, h2, _⟩ := draw_pick h1 [500, 100000, 3000000] (by decide) (by decide)
    obtain ⟨v3, a3, s3, e3, h3, _⟩ := draw_next h2 v2
    exact ⟨v3, a3, s3, by simp only [if_neg g, e2, e3, Option.bind_some], h3⟩
theorem draw_even (c : List Int) (hb : ∀ x ∈ c, (Lit.int .u8 x).wf = true) (hl : c.length ≤ 4096) : ∃ x y z, Ev (fun k => spec_DrawBreakEven.f k c) (x, y, z) := by
  obtain ⟨s0, h0, hs0⟩ := draw_from c hb hl
  obtain ⟨v1, a1, s1, e1, h1, _⟩ := draw_next hs0 2000
  obtain ⟨v2, a2, s2, e2, h2, _⟩ := draw_next h1 400
  obtain ⟨v3, a3, s3, e3, h3, _⟩ := draw_next h2 20
  simp only [spec_DrawBreakEven.f]
  by_cases g : v3 = 0
  · obtain ⟨v4, a4, s4, e4, h4, _⟩ := draw_pick h3 [0, 1000000000000] (by decide) (by decide)
    obtain ⟨v5, a5, s5, e5, h5, _⟩ := draw_pick h4 [-1, v1, 1000000, 1000001] (by simp) (by simp)
    refine ⟨v4, v1, v5, Ev.bind h0 ?_⟩
    simp only [e1, e2, e3, e4, e5, Option.bind_some, if_pos g]
    exact Ev.now _
  · obtain ⟨v4, a4, s4, e4, h4⟩ := draw_amount h3
    refine ⟨v4, v1, wrap64 ((wrap64 (v1 + v2)) - 50), Ev.bind h0 ?_⟩
    simp only [e1, e2, e3, e4, Option.bind_some, if_neg g]
    exact Ev.now _
theorem draw_cheaper (c : List Int) (hb : ∀ x ∈ c, (Lit.int .u8 x).wf = true) (hl : c.length ≤ 4096) : ∃ x y z w, Ev (fun k => spec_DrawCheaperOf.f k c) (x, y, z, w) := by
  obtain ⟨s0, h0, hs0⟩ := draw_from c hb hl
  obtain ⟨v1, a1, s1, e1, h1, _⟩ := draw_next hs0 2000
  obtain ⟨v2, a2, s2, e2, h2⟩ := draw_amount h1
  obtain ⟨v3, a3, s3, e3, h3⟩ := draw_amount h2
  obtain ⟨v4, a4, s4, e4, h4, _⟩ := draw_next h3 300
  simp only [spec_DrawCheaperOf.f]
  refine ⟨v2, v1, v3, mx 0 (wrap64 ((wrap64 (v1 + v4)) - 200)), Ev.bind h0 ?_⟩
  simp only [e1, e2, e3, e4, Option.bind_some]
  exact Ev.now _
theorem draw_unit (c : List Int) (hb : ∀ x ∈ c, (Lit.int .u8 x).wf = true) (hl : c.length ≤ 4096) : ∃ x y, Ev (fun k => spec_DrawUnitPrice.f k c) (x, y) := by
  obtain ⟨s0, h0, hs0⟩ := draw_from c hb hl
  obtain ⟨v1, a1, s1, e1, h1⟩ := draw_amount hs0
  obtain ⟨v2, a2, s2, e2, h2, _⟩ := draw_next h1 3000
  obtain ⟨v3, a3, s3, e3, h3, _⟩ := draw_next h2 50
  obtain ⟨v4, a4, s4, e4, h4, _⟩ := draw_pick h3 [0, 1, 1000000, 1000001] (by decide) (by decide)
  obtain ⟨v5, a5, s5, e5, h5, _⟩ := draw_pick h4 [wrap64 (1 + v2), wrap64 (1 + v3), v4] (by simp) (by simp)
  simp only [spec_DrawUnitPrice.f]
  refine ⟨v1, v5, Ev.bind h0 ?_⟩
  simp only [e1, e2, e3, e4, e5, Option.bind_some]
  exact Ev.now _
theorem mx_eq (a b : Int) : mx a b = if a < b then b else a := rfl
def evenOk (a b c : Int) (r : Int × Int) : Prop := r.2 = 0 → 0 ≤ a ∧ a ≤ 1000000000000 ∧ 0 ≤ b ∧ b ≤ 1000000 ∧ 0 ≤ c ∧ c ≤ 1000000 ∧ 1 ≤ r.1 ∧ r.1 ≤ 1000000 ∧ a + r.1 * b ≤ r.1 * c ∧ (r.1 = 1 ∨ (r.1 - 1) * c < a + (r.1 - 1) * b)
theorem even_all (a b c : Int) : ∃ r, Ev (fun k => spec_BreakEven.f k a b c) r ∧ Ev (fun k => impl_BreakEven.f k a b c) r ∧ evenOk a b c r := by
  simp only [spec_BreakEven.f, impl_BreakEven.f, spec_l23Fits.f, impl_isAmount.f, impl_isPrice.f, l01In, inRange, Option.bind_some]
  have bad : Ev (fun k => spec_BreakEven.j0 k a b c true) (0, 2) ∧ Ev (fun k => impl_BreakEven.j0 k a b c true) (0, 2) ∧ evenOk a b c (0, 2) :=
    ⟨Ev.step (fun k => by rw [spec_BreakEven.j0, if_pos rfl]) (Ev.now _), Ev.step (fun k => by rw [impl_BreakEven.j0, if_pos rfl]) (Ev.now _), fun h => by simp at h⟩
  cases h0 : inR a 0 1000000000000
  · exact ⟨_, by simpa using bad⟩
  cases h1 : inR b 0 1000000
  · exact ⟨_, by simpa using bad⟩
  cases h2 : inR c 0 1000000
  · exact ⟨_, by simpa using bad⟩
  simp only [if_true, Bool.not_true]
  obtain ⟨a0, a1⟩ := inR_iff.1 h0
  obtain ⟨b0, b1⟩ := inR_iff.1 h1
  obtain ⟨c0, c1⟩ := inR_iff.1 h2
  have e : wrap64 (c - b) = c - b := w64 (by omega) (by omega)
  by_cases g0 : b < c
  · have eq := quo_eq a0 (show a ≤ 4000000000000000000 by omega) (show 1 ≤ c - b by omega) (by omega)
    obtain ⟨q0, q1⟩ := ceil_spec (a := a) (show 1 ≤ c - b by omega)
    have sp : Ev (fun k => spec_BreakEven.j0 k a b c false) (if mx 1 (quo a (c - b)) > 1000000 then (0, 4) else (mx 1 (quo a (c - b)), 0)) := by
      refine Ev.step (fun k => by rw [spec_BreakEven.j0]) ?_
      simp only [Bool.false_eq_true, if_false, e, if_neg (show ¬ c - b ≤ 0 by omega), l01Ceil a (c - b) (by omega), Option.bind_some]
      split <;> exact Ev.now _
    have im : Ev (fun k => impl_BreakEven.j0 k a b c false) (if mx 1 (quo a (c - b)) > 1000000 then (0, 4) else (mx 1 (quo a (c - b)), 0)) := by
      refine Ev.step (fun k => by rw [impl_BreakEven.j0]) ?_
      simp only [Bool.false_eq_true, if_false, e, if_pos (show c > b by omega), quotient a (c - b) (by omega), Option.bind_some]
      split <;> exact Ev.now _
    refine ⟨_, sp, im, ?_⟩
    by_cases g1 : mx 1 (quo a (c - b)) > 1000000
    · rw [if_pos g1]; intro h; simp at h
    · rw [if_neg g1]
      intro _
      rw [mx_eq, eq] at g1 ⊢
      generalize hq : (a + (c - b) - 1) / (c - b) = q at q0 q1 g1 ⊢
      rw [Int.mul_sub] at q0 q1
      by_cases g2 : 1 < q
      · rw [if_pos g2] at g1 ⊢
        refine ⟨a0, a1, b0, b1, c0, c1, by simp only []; omega, by simp only []; omega, by simp only []; omega, Or.inr ?_⟩
        simp only [Int.sub_mul, Int.one_mul]
        omega
      · rw [if_neg g2] at g1 ⊢
        refine ⟨a0, a1, b0, b1, c0, c1, by simp only []; omega, by simp only []; omega, ?_, Or.inl rfl⟩
        simp only [Int.one_mul]
        have : q * (c - b) ≤ 1 * (c - b) := Int.mul_le_mul_of_nonneg_right (by omega) (by omega)
        rw [Int.mul_sub] at this
        omega
  · by_cases g1 : c < b
    · refine ⟨(0, 4), ?_, ?_, fun h => by simp at h⟩
      · refine Ev.step (fun k => by rw [spec_BreakEven.j0]) ?_
        simp only [Bool.false_eq_true, if_false, e, if_pos (show c - b ≤ 0 by omega), if_neg (show ¬ c - b = 0 by omega)]
        exact Ev.step (fun k => by rw [spec_BreakEven.j1]; simp) (Ev.now _)
      · refine Ev.step (fun k => by rw [impl_BreakEven.j0]) ?_
        simp only [Bool.false_eq_true, if_false, if_neg (show ¬ c > b by omega), if_pos g1]
        exact Ev.step (fun k => by rw [impl_BreakEven.j1]; simp) (Ev.now _)
    · by_cases g2 : a = 0
      · refine ⟨(1, 0), ?_, ?_, fun _ => ⟨a0, a1, b0, b1, c0, c1, by decide, by decide, by simp only []; omega, Or.inl rfl⟩⟩
        · refine Ev.step (fun k => by rw [spec_BreakEven.j0]) ?_
          simp only [Bool.false_eq_true, if_false, e, if_pos (show c - b ≤ 0 by omega), if_pos (show c - b = 0 by omega)]
          exact Ev.step (fun k => by rw [spec_BreakEven.j1, g2]; simp) (Ev.now _)
        · refine Ev.step (fun k => by rw [impl_BreakEven.j0]) ?_
          simp only [Bool.false_eq_true, if_false, if_neg (show ¬ c > b by omega), if_neg g1]
          exact Ev.step (fun k => by rw [impl_BreakEven.j1, g2]; simp) (Ev.now _)
      · refine ⟨(0, 4), ?_, ?_, fun h => by simp at h⟩
        · refine Ev.step (fun k => by rw [spec_BreakEven.j0]) ?_
          simp only [Bool.false_eq_true, if_false, e, if_pos (show c - b ≤ 0 by omega), if_pos (show c - b = 0 by omega)]
          exact Ev.step (fun k => by rw [spec_BreakEven.j1]; simp [g2]) (Ev.now _)
        · refine Ev.step (fun k => by rw [impl_BreakEven.j0]) ?_
          simp only [Bool.false_eq_true, if_false, if_neg (show ¬ c > b by omega), if_neg g1]
          exact Ev.step (fun k => by rw [impl_BreakEven.j1]; simp [show 0 < a by omega]) (Ev.now _)
def cheapOk (a b c d : Int) (r : Int × Int) : Prop := r.2 = 0 → 0 ≤ a ∧ a ≤ 1000000000000 ∧ 0 ≤ b ∧ b ≤ 1000000 ∧ 0 ≤ c ∧ c ≤ 1000000000000 ∧ 0 ≤ d ∧ d ≤ 1000000 ∧ 0 ≤ r.1 ∧ r.1 ≤ 1000000 ∧ c + r.1 * d < a + r.1 * b ∧ (0 < r.1 → a + (r.1 - 1) * b ≤ c + (r.1 - 1) * d)
theorem cheap_all (a b c d : Int) : ∃ r, Ev (fun k => spec_CheaperOf.f k a b c d) r ∧ Ev (fun k => impl_CheaperOf.f k a b c d) r ∧ cheapOk a b c d r := by
  simp only [spec_CheaperOf.f, impl_CheaperOf.f, spec_l23Fits.f, impl_isAmount.f, impl_isPrice.f, l01In, inRange, Option.bind_some]
  have bad : Ev (fun k => spec_CheaperOf.j0 k a b c d true) (0, 2) ∧ Ev (fun k => impl_CheaperOf.j0 k a b c d true) (0, 2) ∧ cheapOk a b c d (0, 2) :=
    ⟨Ev.step (fun k => by rw [spec_CheaperOf.j0, if_pos rfl]) (Ev.now _), Ev.step (fun k => by rw [impl_CheaperOf.j0, if_pos rfl]) (Ev.now _), fun h => by simp at h⟩
  cases h0 : inR a 0 1000000000000
  · exact ⟨_, by simpa using bad⟩
  cases h2 : inR c 0 1000000000000
  · refine ⟨(0, 2), ?_⟩
    cases h1 : inR b 0 1000000 <;> simpa using bad
  cases h1 : inR b 0 1000000
  · exact ⟨_, by simpa using bad⟩
  cases h3 : inR d 0 1000000
  · exact ⟨_, by simpa using bad⟩
  simp only [if_true, Bool.not_true, Option.bind_some]
  obtain ⟨a0, a1⟩ := inR_iff.1 h0
  obtain ⟨b0, b1⟩ := inR_iff.1 h1
  obtain ⟨c0, c1⟩ := inR_iff.1 h2
  obtain ⟨d0, d1⟩ := inR_iff.1 h3
  have e : wrap64 (b - d) = b - d := w64 (by omega) (by omega)
  have e' : wrap64 (c - a) = c - a := w64 (by omega) (by omega)
  by_cases g0 : c < a
  · refine ⟨(0, 0), ?_, ?_, fun _ => ⟨a0, a1, b0, b1, c0, c1, d0, d1, by decide, by decide, by simpa using g0, fun h => by simp at h⟩⟩
    · refine Ev.step (fun k => by rw [spec_CheaperOf.j0]) ?_
      simp only [Bool.false_eq_true, if_false, if_pos g0]
      exact Ev.now _
    · refine Ev.step (fun k => by rw [impl_CheaperOf.j0]) ?_
      simp only [Bool.false_eq_true, if_false, if_pos g0]
      exact Ev.now _
  · by_cases g1 : b ≤ d
    · refine ⟨(0, 4), ?_, ?_, fun h => by simp at h⟩
      · refine Ev.step (fun k => by rw [spec_CheaperOf.j0]) ?_
        simp only [Bool.false_eq_true, if_false, if_neg g0, e, if_pos (show b - d ≤ 0 by omega)]
        exact Ev.now _
      · refine Ev.step (fun k => by rw [impl_CheaperOf.j0]) ?_
        simp only [Bool.false_eq_true, if_false, if_neg g0, if_pos g1]
        exact Ev.now _
    · have p0 := Int.ediv_nonneg (a := c - a) (b := b - d) (by omega) (by omega)
      have p1 : (c - a) / (b - d) ≤ c - a := Int.ediv_le_self _ (by omega)
      have eq : wrap64 (wrap64 (Int.tdiv (c - a) (b - d)) + 1) = (c - a) / (b - d) + 1 := by
        rw [Int.tdiv_eq_ediv_of_nonneg (by omega), w64 (x := (c - a) / (b - d)) (by omega) (by omega), w64 (by omega) (by omega)]
      have q0 := Int.mul_ediv_add_emod (c - a) (b - d)
      have q1 := Int.emod_nonneg (c - a) (show b - d ≠ 0 by omega)
      have q2 := Int.emod_lt_of_pos (c - a) (show 0 < b - d by omega)
      have sp : Ev (fun k => spec_CheaperOf.j0 k a b c d false) (if (c - a) / (b - d) + 1 > 1000000 then (0, 4) else ((c - a) / (b - d) + 1, 0)) := by
        refine Ev.step (fun k => by rw [spec_CheaperOf.j0]) ?_
        simp only [Bool.false_eq_true, if_false, e, e', if_neg g0, if_neg (show ¬ b - d ≤ 0 by omega), if_neg (show ¬ b - d = 0 by omega), eq]
        split <;> exact Ev.now _
      have im : Ev (fun k => impl_CheaperOf.j0 k a b c d false) (if (c - a) / (b - d) + 1 > 1000000 then (0, 4) else ((c - a) / (b - d) + 1, 0)) := by
        refine Ev.step (fun k => by rw [impl_CheaperOf.j0]) ?_
        simp only [Bool.false_eq_true, if_false, e, e', if_neg g0, if_neg g1, if_neg (show ¬ b - d = 0 by omega), eq]
        split <;> exact Ev.now _
      refine ⟨_, sp, im, ?_⟩
      by_cases g3 : (c - a) / (b - d) + 1 > 1000000
      · rw [if_pos g3]; intro h; simp at h
      · rw [if_neg g3]
        intro _
        generalize (c - a) / (b - d) = q at p0 p1 q0 g3 ⊢
        generalize (c - a) % (b - d) = m at q0 q1 q2
        rw [Int.mul_comm, Int.mul_sub] at q0
        refine ⟨a0, a1, b0, b1, c0, c1, d0, d1, by simp only []; omega, by simp only []; omega, ?_, fun _ => ?_⟩
        · simp only [Int.add_mul, Int.one_mul]
          omega
        · simp only [show q + 1 - 1 = q by omega]
          omega
def unitT (a b : Int) : Int × Int := if inR a 0 1000000000000 = true ∧ inR b 1 1000000 = true then (quo a b, 0) else (0, 2)
theorem spec_UnitPrice (a b : Int) : spec_UnitPrice.f a b = some (unitT a b) := by
  simp only [spec_UnitPrice.f, l01In, Option.bind_some, unitT]
  cases h0 : inR a 0 1000000000000 <;> cases h1 : inR b 1 1000000 <;> simp
  have := inR_iff.1 h1
  simp [l01Ceil a b (by omega)]
theorem impl_UnitPrice (a b : Int) : impl_UnitPrice.f a b = some (unitT a b) := by
  simp only [impl_UnitPrice.f, impl_isAmount.f, inRange, Option.bind_some, unitT]
  cases h0 : inR a 0 1000000000000 <;> cases h1 : inR b 1 1000000 <;> simp
  have := inR_iff.1 h1
  simp [quotient a b (by omega)]
theorem FnBreakEven : laws_FnBreakEven.Pure := by
  intro c hl hb
  refine Ev.rounds (g := fun k => laws_FnBreakEven.f k c) ?_
  simp only [laws_FnBreakEven.f, laws_big.f, Option.bind_some]
  by_cases hbig : (c.length : Int) > 4096
  · simp only [decide_eq_true hbig, if_true]
    exact Ev.now _
  simp only [decide_eq_false hbig, Bool.false_eq_true, if_false]
  obtain ⟨x, y, z, d1⟩ := draw_even c hb (by omega)
  obtain ⟨p, q, r, s, d2⟩ := draw_cheaper c hb (by omega)
  obtain ⟨u, v, d3⟩ := draw_unit c hb (by omega)
  obtain ⟨⟨b1, b2⟩, s1, i1, o1⟩ := even_all x y z
  obtain ⟨⟨c1, c2⟩, s2, i2, o2⟩ := cheap_all p q r s
  refine Ev.bind d1 ?_
  refine Ev.bind i1 ?_
  refine Ev.bind s1 ?_
  refine Ev.bind d2 ?_
  refine Ev.bind i2 ?_
  refine Ev.bind s2 ?_
  refine Ev.bind d3 ?_
  simp only [impl_UnitPrice, spec_UnitPrice, Option.bind_some, if_true, bne_self_eq_false]
  have J1 : Ev (fun k => laws_FnBreakEven.j1 k x y z b1 b2 p q r s c1 c2 false) true := by
    refine Ev.step (fun k => by rw [laws_FnBreakEven.j1]) ?_
    simp only [Bool.false_eq_true, if_false]
    have T : Ev (fun _ : Nat => if b2 = 0 then (if (wrap64 (b1 * z)) ≥ (wrap64 (x + (wrap64 (b1 * y)))) then (if b1 = 1 then (some true) else (some (decide ((wrap64 ((wrap64 (b1 - 1)) * z)) < (wrap64 (x + (wrap64 ((wrap64 (b1 - 1)) * y)))))))) else (some false)) else (some true)) true := by
      by_cases h0 : b2 = 0
      · obtain ⟨a0, a1, b0, b1', c0, c1', r0, r1, k0, k1⟩ := o1 h0
        simp only [] at r0 r1 k0 k1
        have m1 := Int.mul_nonneg (show 0 ≤ b1 by omega) c0
        have m2 := Int.mul_le_mul r1 c1' c0 (by omega)
        have m3 := Int.mul_nonneg (show 0 ≤ b1 by omega) b0
        have m4 := Int.mul_le_mul r1 b1' b0 (by omega)
        have n1 := Int.mul_nonneg (show 0 ≤ b1 - 1 by omega) c0
        have n2 := Int.mul_le_mul (show b1 - 1 ≤ 1000000 by omega) c1' c0 (by omega)
        have n3 := Int.mul_nonneg (show 0 ≤ b1 - 1 by omega) b0
        have n4 := Int.mul_le_mul (show b1 - 1 ≤ 1000000 by omega) b1' b0 (by omega)
        rw [if_pos h0, w64 (x := b1 * z) (by omega) (by omega), w64 (x := b1 * y) (by omega) (by omega), w64 (x := x + b1 * y) (by omega) (by omega), if_pos (by omega), w64 (x := b1 - 1) (by omega) (by omega), w64 (x := (b1 - 1) * z) (by omega) (by omega), w64 (x := (b1 - 1) * y) (by omega) (by omega), w64 (x := x + (b1 - 1) * y) (by omega) (by omega)]
        by_cases h1 : b1 = 1
        · rw [if_pos h1]; exact Ev.now _
        · rw [if_neg h1, decide_eq_true (by rcases k1 with k1 | k1 <;> omega)]; exact Ev.now _
      · rw [if_neg h0]; exact Ev.now _
    by_cases h0 : c2 = 0
    · obtain ⟨a0, a1, b0, b1', c0, c1', d0, d1', r0, r1, k0, k1⟩ := o2 h0
      simp only [] at r0 r1 k0 k1
      have m1 := Int.mul_nonneg r0 d0
      have m2 := Int.mul_le_mul r1 d1' d0 (by omega)
      have m3 := Int.mul_nonneg r0 b0
      have m4 := Int.mul_le_mul r1 b1' b0 (by omega)
      simp only [if_pos h0]
      rw [w64 (x := c1 * s) (by omega) (by omega), w64 (x := c1 * q) (by omega) (by omega), w64 (x := r + c1 * s) (by omega) (by omega), w64 (x := p + c1 * q) (by omega) (by omega)]
      simp only [if_neg (show ¬ r + c1 * s ≥ p + c1 * q by omega)]
      by_cases h1 : c1 > 0
      · have n1 := Int.mul_nonneg (show 0 ≤ c1 - 1 by omega) d0
        have n2 := Int.mul_le_mul (show c1 - 1 ≤ 1000000 by omega) d1' d0 (by omega)
        have n3 := Int.mul_nonneg (show 0 ≤ c1 - 1 by omega) b0
        have n4 := Int.mul_le_mul (show c1 - 1 ≤ 1000000 by omega) b1' b0 (by omega)
        simp only [if_pos h1]
        rw [w64 (x := c1 - 1) (by omega) (by omega), w64 (x := (c1 - 1) * s) (by omega) (by omega), w64 (x := (c1 - 1) * q) (by omega) (by omega), w64 (x := r + (c1 - 1) * s) (by omega) (by omega), w64 (x := p + (c1 - 1) * q) (by omega) (by omega)]
        simp only [if_neg (show ¬ r + (c1 - 1) * s < p + (c1 - 1) * q by have := k1 h1; omega)]
        exact T
      · simp only [if_neg h1]
        exact T
    · simp only [if_neg h0]
      exact T
  refine Ev.step (fun k => by rw [laws_FnBreakEven.j0]) ?_
  simp only [Bool.false_eq_true, if_false]
  by_cases h0 : (unitT u v).2 = 0
  · simp only [if_pos h0]
    have hh : inR u 0 1000000000000 = true ∧ inR v 1 1000000 = true := by
      by_cases h : inR u 0 1000000000000 = true ∧ inR v 1 1000000 = true
      · exact h
      · unfold unitT at h0; rw [if_neg h] at h0; simp at h0
    obtain ⟨u0, u1⟩ := inR_iff.1 hh.1
    obtain ⟨v0, v1⟩ := inR_iff.1 hh.2
    have et : (unitT u v).1 = (u + v - 1) / v := by
      unfold unitT; rw [if_pos hh]; exact quo_eq u0 (by omega) v0 (by omega)
    rw [et]
    obtain ⟨q0, q1⟩ := ceil_spec (a := u) v0
    have p0 := Int.ediv_nonneg (a := u + v - 1) (b := v) (by omega) (by omega)
    have p1 : (u + v - 1) / v ≤ u := ceil_le v0 (by have := Int.mul_le_mul_of_nonneg_left v0 u0; omega)
    generalize (u + v - 1) / v = t at q0 q1 p0 p1 ⊢
    rw [w64 (x := t * v) (by omega) (by omega)]
    simp only [if_neg (show ¬ t * v < u by omega)]
    by_cases h1 : t > 0
    · have m1 : (t - 1) * v = t * v - v := by rw [Int.sub_mul, Int.one_mul]
      simp only [if_pos h1]
      rw [w64 (x := t - 1) (by omega) (by omega), w64 (x := (t - 1) * v) (by omega) (by omega), decide_eq_false (show ¬ (t - 1) * v ≥ u by omega)]
      exact J1
    · simp only [if_neg h1]
      exact J1
  · simp only [if_neg h0]
    exact J1

end Go.Proofs.Ythfgdcnngklfoaa.Pure
