/- The pure statement of law FnTimes: what the printed functions compute answers true at every input. No condition. -/
import Derived.Test.YthfgdcnngklfoaaPFnTimesx4
set_option linter.unusedVariables false
set_option linter.unusedSimpArgs false
namespace Go.Proofs.Ythfgdcnngklfoaa.Pure
open Go.RowKit Go.Proofs.Ythfgdcnngklfoaa.PFnTimes Go.Proofs.YthfgdcnngklfoaaW.PrintWords Go.Proofs.YthfgdcnngklfoaaW.PrintLast Go.Proofs.YthfgdcnngklfoaaW.PrintMore


/-! #### Numbers and rounds -/
theorem w64 {x : Int} (h1 : -9223372036854775808 ≤ x) (h2 : x ≤ 9223372036854775807) : wrap64 x = x := by
  unfold wrap64
  omega
theorem wf64 {x : Int} (h : (Lit.int .i64 x).wf = true) : -9223372036854775808 ≤ x ∧ x ≤ 9223372036854775807 := by
  simp only [Lit.wf, IntKind.min, IntKind.max, IntKind.signed, IntKind.bits, Bool.and_eq_true, decide_eq_true_eq, if_true] at h
  omega
theorem ev_of {α : Type} {g : Nat → Option α} {r : α} (h : ∀ k, g k = some r) : Ev g r := ⟨0, fun k _ => h k⟩
theorem ev_eq {α : Type} {g : Nat → Option α} {r r' : α} (h : Ev g r) (e : r = r') : Ev g r' := e ▸ h
/-- A loop over a list: what lies behind, what lies ahead. -/
theorem loop_list {α : Type} (l : List α) (Q : List α → List α → Prop) (h0 : Q l []) (hs : ∀ p x s, l = p ++ x :: s → Q (p ++ [x]) s → Q p (x :: s)) : Q [] l := by
  have h : ∀ s p, l = p ++ s → Q p s := by
    intro s
    induction s with
    | nil => intro p hp; rw [List.append_nil] at hp; rw [← hp]; exact h0
    | cons x s ih => intro p hp; exact hs p x s hp (ih (p ++ [x]) (by simp [hp]))
  exact h l [] rfl
theorem mid_lt {α : Type} {l p s : List α} {x : α} (h : l = p ++ x :: s) : (p.length : Int) < (l.length : Int) := by
  rw [h, List.length_append, List.length_cons]; omega
theorem mid_next {α : Type} {l p s : List α} {x : α} (h : l = p ++ x :: s) (hl : l.length ≤ 9223372036854775807) : wrap64 ((p.length : Int) + 1) = ((p ++ [x]).length : Int) := by
  have := mid_lt h
  rw [w64 (by omega) (by omega), List.length_append]; simp
theorem mid_get {α : Type} {l p s : List α} {x : α} (h : l = p ++ x :: s) (z : α) : l.getD (p.length : Int).toNat z = x := by
  rw [h]; simp
theorem get_mid {α : Type} (p s : List α) (x z : α) : (p ++ x :: s).getD (p.length : Int).toNat z = x := by simp
theorem nat_nn (n : Nat) : (0 : Int) ≤ (n : Int) := by omega
theorem nlt_self {α : Type} (l : List α) : ¬ ((l.length : Int) < (l.length : Int)) := by omega
theorem set_mid {α : Type} (p s : List α) (x y : α) : (p ++ x :: s).set ((p.length : Int).toNat) y = p ++ y :: s := by
  rw [Int.toNat_natCast, List.set_append_right _ _ (Nat.le_refl _)]; simp
theorem nil_or_snoc {α : Type} (p : List α) : p = [] ∨ ∃ q y, p = q ++ [y] := by
  rcases List.eq_nil_or_concat p with h | ⟨q, y, h⟩
  · exact .inl h
  · exact .inr ⟨q, y, by rw [h, List.concat_eq_append]⟩
theorem loop_all {α : Type} (l : List α) (Q : List α → List α → Prop) (h0 : Q l []) (hs : ∀ p x s, l = p ++ x :: s → Q (p ++ [x]) s → Q p (x :: s)) : ∀ s p, l = p ++ s → Q p s := by
  intro s
  induction s with
  | nil => intro p hp; rw [List.append_nil] at hp; rw [← hp]; exact h0
  | cons x s ih => intro p hp; exact hs p x s hp (ih (p ++ [x]) (by simp [hp]))
/-- A source that stands somewhere in its code. -/
def Src (c : List Int) (a s : Int) : Prop := (∀ x ∈ c, 0 ≤ x ∧ x ≤ 255) ∧ c.length ≤ 4096 ∧ 0 ≤ a ∧ a ≤ (c.length : Int) ∧ 0 ≤ s ∧ s < 2147483647
theorem rd_byte {c : List Int} (h : ∀ x ∈ c, 0 ≤ x ∧ x ≤ 255) (i : Int) : 0 ≤ rd c i ∧ rd c i ≤ 255 := by
  unfold rd
  rw [List.getD_eq_getElem?_getD]
  cases e : c[i.toNat]? with
  | none => simp
  | some v => exact h v (List.mem_of_getElem? e)
theorem tmod_range {x n : Int} (hx : 0 ≤ x) (hn : 1 < n) : 0 ≤ Int.tmod x n ∧ Int.tmod x n < n := by
  rw [Int.tmod_eq_emod_of_nonneg hx]
  exact ⟨Int.emod_nonneg _ (by omega), Int.emod_lt_of_pos _ (by omega)⟩
theorem seed_step {s : Int} (h0 : 0 ≤ s) (h1 : s < 2147483647) : 0 ≤ Int.tmod (wrap64 ((wrap64 (s * 48271)) + 61)) 2147483647 ∧ Int.tmod (wrap64 ((wrap64 (s * 48271)) + 61)) 2147483647 < 2147483647 := by
  rw [w64 (x := s * 48271) (by omega) (by omega), w64 (by omega) (by omega)]
  exact tmod_range (by omega) (by omega)
theorem draw_next {c : List Int} {a s : Int} (h : Src c a s) (n : Int) : ∃ v a' s', spec_l01Next.f c a s n = some (v, a', s') ∧ Src c a' s' ∧ (n ≤ 1 → v = 0) ∧ (1 < n → 0 ≤ v ∧ v < n) := by
  obtain ⟨hb, hl, ha, ha1, hs, hs1⟩ := h
  by_cases hn : n ≤ 1
  · exact ⟨0, a, s, by simp only [spec_l01Next.f, if_pos hn], ⟨hb, hl, ha, ha1, hs, hs1⟩, fun _ => rfl, fun h => by omega⟩
  · have hn0 : ¬ n = 0 := by omega
    obtain ⟨k0, k1⟩ := seed_step hs hs1
    generalize hk : Int.tmod (wrap64 ((wrap64 (s * 48271)) + 61)) 2147483647 = t at k0 k1
    have hx : Int.tdiv t 31 = t / 31 := Int.tdiv_eq_ediv_of_nonneg k0
    have hx1 : wrap64 (t / 31) = t / 31 := w64 (by omega) (by omega)
    by_cases hlt : a < (c.length : Int)
    · have e1 : wrap64 (a + 1) = a + 1 := w64 (by omega) (by omega)
      have e2 : wrap64 (a + 1 - 1) = a := by rw [show a + 1 - 1 = a by omega]; exact w64 (by omega) (by omega)
      obtain ⟨b0, b1⟩ := rd_byte hb a
      have e3 : wrap64 (rd c a) = rd c a := w64 (by omega) (by omega)
      have e4 : wrap64 (t / 31 + rd c a) = t / 31 + rd c a := w64 (by omega) (by omega)
      have hS : Src c (a + 1) t := ⟨hb, hl, by omega, by omega, k0, k1⟩
      by_cases h256 : n ≤ 256
      · by_cases he : Int.tmod (a + 1) 2 = 0
        · refine ⟨Int.tmod (rd c a) n, a + 1, t, ?_, hS, fun h => by omega, fun h => tmod_range b0 h⟩
          simp only [spec_l01Next.f, if_neg hn, if_pos hlt, if_pos ha, if_pos h256, e1, e2, e3, hk, if_pos he, if_neg hn0]
        · refine ⟨Int.tmod (t / 31 + rd c a) n, a + 1, t, ?_, hS, fun h => by omega, fun h => tmod_range (by omega) h⟩
          simp only [spec_l01Next.f, if_neg hn, if_pos hlt, if_pos ha, if_pos h256, e1, e2, e3, e4, hk, hx, hx1, if_neg he, if_neg hn0]
      · refine ⟨Int.tmod (t / 31 + rd c a) n, a + 1, t, ?_, hS, fun h => by omega, fun h => tmod_range (by omega) h⟩
        simp only [spec_l01Next.f, if_neg hn, if_pos hlt, if_pos ha, if_neg h256, e1, e3, e4, hk, hx, hx1, if_neg hn0]
    · refine ⟨Int.tmod (t / 31) n, a, t, ?_, ⟨hb, hl, ha, ha1, k0, k1⟩, fun h => by omega, fun h => tmod_range (by omega) h⟩
      simp only [spec_l01Next.f, if_neg hn, if_neg hlt, hk, hx, hx1, if_neg hn0]
theorem draw_pick {c : List Int} {a s : Int} (h : Src c a s) (l : List Int) (h0 : 0 < l.length) (h1 : l.length ≤ 1000) : ∃ v a' s', spec_l01Pick.f c a s l = some (v, a', s') ∧ Src c a' s' ∧ v ∈ l := by
  obtain ⟨v, a', s', e, hS, hv0, hv1⟩ := draw_next h (l.length : Int)
  have hv : 0 ≤ v ∧ v < (l.length : Int) := by
    by_cases hn : (l.length : Int) ≤ 1
    · have := hv0 hn; omega
    · exact hv1 (by omega)
  refine ⟨rd l v, a', s', by simp only [spec_l01Pick.f, e, Option.bind_some, if_pos hv.1, if_pos hv.2], hS, ?_⟩
  have : v.toNat < l.length := by omega
  unfold rd
  rw [List.getD_eq_getElem?_getD, List.getElem?_eq_getElem this]
  exact List.getElem_mem this
theorem draw_from (c : List Int) (hb : ∀ x ∈ c, (Lit.int .u8 x).wf = true) (hl : c.length ≤ 4096) : ∃ s, Ev (fun k => spec_l01From.f k c) (c, 0, s) ∧ Src c 0 s := by
  have hb' : ∀ x ∈ c, 0 ≤ x ∧ x ≤ 255 := by
    intro x hx
    have := hb x hx
    simp only [Lit.wf, IntKind.min, IntKind.max, IntKind.signed, IntKind.bits, Bool.and_eq_true, decide_eq_true_eq] at this
    simp at this
    omega
  have H := loop_list c (fun p t => ∀ s, 0 ≤ s → s < 2147483647 → ∃ s', Ev (fun k => spec_l01From.l0 k c (p.length : Int) c 0 s) (c, 0, s') ∧ 0 ≤ s' ∧ s' < 2147483647) ?_ ?_ 88007 (by omega) (by omega)
  · obtain ⟨s', h, h0, h1⟩ := H
    exact ⟨s', h, hb', hl, by omega, by omega, h0, h1⟩
  · intro s h0 h1
    refine ⟨s, Ev.step (fun k => by rw [spec_l01From.l0]) ?_, h0, h1⟩
    simp only [if_neg (nlt_self c)]
    exact Ev.now _
  · intro p x t he ih s h0 h1
    by_cases h64 : (p.length : Int) < 64
    · have hx : rd c (p.length : Int) = x := mid_get he 0
      obtain ⟨b0, b1⟩ := hb' x (by rw [he]; simp)
      have e : wrap64 (wrap64 (s * 71) + wrap64 x) = s * 71 + x := by rw [w64 (x := s * 71) (by omega) (by omega), w64 (x := x) (by omega) (by omega), w64 (by omega) (by omega)]
      obtain ⟨k0, k1⟩ := tmod_range (x := s * 71 + x) (n := 2147483647) (by omega) (by omega)
      obtain ⟨s', h, g0, g1⟩ := ih (Int.tmod (s * 71 + x) 2147483647) k0 k1
      refine ⟨s', Ev.step (fun k => by rw [spec_l01From.l0]) ?_, g0, g1⟩
      simp only [if_pos (mid_lt he), if_pos h64, if_pos (nat_nn p.length), hx, e, mid_next he (by omega)]
      exact h
    · refine ⟨s, Ev.step (fun k => by rw [spec_l01From.l0]) ?_, h0, h1⟩
      simp only [if_pos (mid_lt he), if_neg h64]
      exact Ev.now _
theorem draw_step {c : List Int} {a s : Int} (h : Src c a s) : ∃ x y z a' s', spec_l19DrawStep.f c a s = some (x, y, z, a', s') ∧ Src c a' s' := by
  obtain ⟨v1, a1, s1, e1, h1, _⟩ := draw_next h 90
  obtain ⟨v2, a2, s2, e2, h2, _⟩ := draw_pick h1 [60, 5000] (by decide) (by decide)
  obtain ⟨v3, a3, s3, e3, h3, _⟩ := draw_next h2 v2
  obtain ⟨v4, a4, s4, e4, h4, _⟩ := draw_next h3 60
  obtain ⟨v5, a5, s5, e5, h5, _⟩ := draw_next h4 60
  simp only [spec_l19DrawStep.f, e1, e2, e3, e4, e5, Option.bind_some]
  by_cases g0 : v5 = 0
  · obtain ⟨v6, a6, s6, e6, h6, _⟩ := draw_pick h5 [-1, 10000, 10001] (by decide) (by decide)
    simp only [if_pos g0, e6, Option.bind_some]
    exact ⟨_, _, _, _, _, rfl, h6⟩
  · by_cases g1 : v5 = 1
    · obtain ⟨v6, a6, s6, e6, h6, _⟩ := draw_pick h5 [0, 1, 100000, 100001] (by decide) (by decide)
      simp only [if_neg g0, if_pos g1, e6, Option.bind_some]
      exact ⟨_, _, _, _, _, rfl, h6⟩
    · by_cases g2 : v5 = 2
      · obtain ⟨v6, a6, s6, e6, h6, _⟩ := draw_pick h5 [-1, 0, 500, 501] (by decide) (by decide)
        simp only [if_neg g0, if_neg g1, if_pos g2, e6, Option.bind_some]
        exact ⟨_, _, _, _, _, rfl, h6⟩
      · simp only [if_neg g0, if_neg g1, if_neg g2]
        exact ⟨_, _, _, _, _, rfl, h5⟩
theorem draw_items {c : List Int} {a s : Int} (h : Src c a s) : ∃ v a' s', spec_l19DrawItems.f c a s = some (v, a', s') ∧ Src c a' s' ∧ -1 ≤ v ∧ v ≤ 1000001 := by
  obtain ⟨v1, a1, s1, e1, h1, _⟩ := draw_next h 24
  simp only [spec_l19DrawItems.f, e1, Option.bind_some]
  by_cases g0 : v1 = 0
  · obtain ⟨v2, a2, s2, e2, h2, hm⟩ := draw_pick h1 [-1, 0, 1000000, 1000001] (by decide) (by decide)
    simp only [if_pos g0, e2, Option.bind_some]
    refine ⟨_, _, _, rfl, h2, ?_⟩
    simp at hm; omega
  · obtain ⟨v2, a2, s2, e2, h2, hm⟩ := draw_pick h1 [20, 3000, 20000] (by decide) (by decide)
    obtain ⟨v3, a3, s3, e3, h3, hv0, hv1⟩ := draw_next h2 v2
    simp only [if_neg g0, e2, e3, Option.bind_some]
    refine ⟨_, _, _, rfl, h3, ?_⟩
    simp at hm
    have := hv1 (by omega)
    omega
theorem draw_share (c : List Int) (hb : ∀ x ∈ c, (Lit.int .u8 x).wf = true) (hl : c.length ≤ 4096) : ∃ x y z n m, Ev (fun k => spec_DrawShareTime.f k c) (x, y, z, n, m) := by
  obtain ⟨s0, h0, hs0⟩ := draw_from c hb hl
  obtain ⟨v1, a1, s1, e1, h1, _⟩ := draw_next hs0 16
  obtain ⟨x, y, z, a2, s2, e2, h2⟩ := draw_step h1
  obtain ⟨n, a3, s3, e3, h3, _⟩ := draw_items h2
  simp only [spec_DrawShareTime.f]
  by_cases g : v1 = 0
  · obtain ⟨m, a4, s4, e4, h4, _⟩ := draw_pick h3 [0, 1, 64, 65] (by decide) (by decide)
    refine ⟨x, y, z, n, m, Ev.bind h0 ?_⟩
    simp only [e1, Option.bind_some, if_pos g, e2, e3, e4]
    exact Ev.now _
  · obtain ⟨m, a4, s4, e4, h4, _⟩ := draw_next h3 6
    refine ⟨x, y, z, n, wrap64 (1 + m), Ev.bind h0 ?_⟩
    simp only [e1, Option.bind_some, if_neg g, e2, e3, e4]
    exact Ev.now _
theorem draw_steptime (c : List Int) (hb : ∀ x ∈ c, (Lit.int .u8 x).wf = true) (hl : c.length ≤ 4096) : ∃ x y z n, Ev (fun k => spec_DrawStepTime.f k c) (x, y, z, n) := by
  obtain ⟨s0, h0, hs0⟩ := draw_from c hb hl
  obtain ⟨x, y, z, a2, s2, e2, h2⟩ := draw_step hs0
  obtain ⟨n, a3, s3, e3, h3, _⟩ := draw_items h2
  simp only [spec_DrawStepTime.f]
  refine ⟨x, y, z, n, Ev.bind h0 ?_⟩
  simp only [Option.bind_some, e2, e3]
  exact Ev.now _
theorem draw_itemsin (c : List Int) (hb : ∀ x ∈ c, (Lit.int .u8 x).wf = true) (hl : c.length ≤ 4096) : ∃ x y z n, Ev (fun k => spec_DrawItemsIn.f k c) (x, y, z, n) := by
  obtain ⟨s0, h0, hs0⟩ := draw_from c hb hl
  obtain ⟨x, y, z, a2, s2, e2, h2⟩ := draw_step hs0
  obtain ⟨v3, a3, s3, e3, h3, _⟩ := draw_next h2 200
  obtain ⟨v4, a4, s4, e4, h4, _⟩ := draw_next h3 2000
  obtain ⟨v5, a5, s5, e5, h5, _⟩ := draw_pick h4 [-1, 0, 1000000000, 1000000001] (by decide) (by decide)
  obtain ⟨v6, a6, s6, e6, h6, _⟩ := draw_pick h5 [v3, v4, v5] (by simp) (by simp)
  simp only [spec_DrawItemsIn.f]
  refine ⟨x, y, z, v6, Ev.bind h0 ?_⟩
  simp only [Option.bind_some, e2, e3, e4, e5, e6]
  exact Ev.now _
def inR (a lo hi : Int) : Bool := decide (lo ≤ a) && decide (a ≤ hi)
theorem inR_iff {a lo hi : Int} : inR a lo hi = true ↔ lo ≤ a ∧ a ≤ hi := by simp [inR]
theorem l01In (a lo hi : Int) : spec_l01In.f a lo hi = some (inR a lo hi) := by
  unfold spec_l01In.f inR
  split
  · rename_i h; rw [decide_eq_true (show lo ≤ a from h), Bool.true_and]
  · rename_i h; rw [decide_eq_false (show ¬ lo ≤ a from h), Bool.false_and]
theorem inRange (a lo hi : Int) : impl_inRange.f a lo hi = some (inR a lo hi) := by
  unfold impl_inRange.f inR
  split
  · rename_i h; rw [decide_eq_true (show lo ≤ a from h), Bool.true_and]
  · rename_i h; rw [decide_eq_false (show ¬ lo ≤ a from h), Bool.false_and]
def stepB (a b c : Int) : Bool := inR a 0 10000 && (inR b 1 100000 && inR c 0 500)
theorem spec_IsStep (a b c : Int) : spec_IsStep.f a b c = some (stepB a b c) := by
  simp only [spec_IsStep.f, l01In, Option.bind_some, stepB]
  cases inR a 0 10000 <;> cases inR b 1 100000 <;> cases inR c 0 500 <;> rfl
theorem impl_IsStep (a b c : Int) : impl_IsStep.f a b c = some (stepB a b c) := by
  simp only [impl_IsStep.f, inRange, Option.bind_some, stepB]
  cases inR a 0 10000 <;> cases inR b 1 100000 <;> cases inR c 0 500 <;> rfl
def quo (a b : Int) : Int := wrap64 (Int.tdiv (wrap64 ((wrap64 (a + b)) - 1)) b)
theorem l01Ceil (a b : Int) (h : b ≠ 0) : spec_l01Ceil.f a b = some (quo a b) := by
  unfold spec_l01Ceil.f
  rw [if_neg h]
  rfl
theorem quotient (a b : Int) (h : b ≠ 0) : impl_quotient.f a b = some (quo a b) := by
  unfold impl_quotient.f
  rw [if_neg h]
  rfl
def minB (a b n : Int) : Int := wrap64 (a + quo (wrap64 (60 * n)) b)
theorem stepB_pos {a b c : Int} (h : stepB a b c = true) : b ≠ 0 := by
  simp only [stepB, Bool.and_eq_true, inR_iff] at h
  omega
theorem l19Time (a b c n : Int) (h : stepB a b c = true) : spec_l19Time.f a b c n = some (minB a b n) := by
  simp only [spec_l19Time.f, l01Ceil _ b (stepB_pos h), Option.bind_some]
  rfl
theorem minutesOf (a b c n : Int) (h : stepB a b c = true) : impl_minutesOf.f a b c n = some (minB a b n) := by
  simp only [impl_minutesOf.f, quotient _ b (stepB_pos h), Option.bind_some, Int.mul_comm n 60]
  rfl
def codeOf (b : Bool) (n : Int) : Int := if b = true then (if inR n 0 1000000 = true then 0 else 2) else 1
theorem l19Code (b : Bool) (n : Int) : spec_l19Code.f b n = some (codeOf b n) := by
  simp only [spec_l19Code.f, l01In, Option.bind_some, codeOf]
  cases b <;> cases inR n 0 1000000 <;> rfl
theorem codeOf_zero {b : Bool} {n : Int} (h : codeOf b n = 0) : b = true ∧ 0 ≤ n ∧ n ≤ 1000000 := by
  unfold codeOf at h
  cases b <;> cases h1 : inR n 0 1000000 <;> simp [h1] at h
  exact ⟨rfl, inR_iff.1 h1⟩
theorem ceil_eq {n k : Int} (hk : 1 ≤ k) : (n + k - 1) / k = n / k + (if 0 < n % k then 1 else 0) := by
  have h1 := Int.emod_nonneg n (show k ≠ 0 by omega)
  have h2 := Int.emod_lt_of_pos n (show 0 < k by omega)
  have h3 := Int.mul_ediv_add_emod n k
  have e : n + k - 1 = (n % k + k - 1) + k * (n / k) := by omega
  rw [e, Int.add_mul_ediv_left _ _ (show k ≠ 0 by omega)]
  by_cases h : 0 < n % k
  · rw [if_pos h]
    have : (n % k + k - 1) / k = 1 := by
      rw [show n % k + k - 1 = (n % k - 1) + k * 1 by omega, Int.add_mul_ediv_left _ _ (show k ≠ 0 by omega), Int.ediv_eq_zero_of_lt (by omega) (by omega)]
      rfl
    omega
  · rw [if_neg h]
    have : (n % k + k - 1) / k = 0 := Int.ediv_eq_zero_of_lt (by omega) (by omega)
    omega
theorem quo_eq {a b : Int} (h0 : 0 ≤ a) (h1 : a ≤ 4000000000000000000) (hb : 1 ≤ b) (hb1 : b ≤ 4000000000000000000) : quo a b = (a + b - 1) / b := by
  unfold quo
  rw [w64 (x := a + b) (by omega) (by omega), w64 (x := a + b - 1) (by omega) (by omega), Int.tdiv_eq_ediv_of_nonneg (by omega)]
  have := Int.ediv_le_self (a := a + b - 1) b (by omega)
  have := Int.ediv_nonneg (a := a + b - 1) (b := b) (by omega) (by omega)
  rw [w64 (by omega) (by omega)]
/-- What a rounded up division is: the least number whose product is enough. -/
theorem ceil_spec {a b : Int} (hb : 1 ≤ b) : a ≤ ((a + b - 1) / b) * b ∧ ((a + b - 1) / b) * b < a + b := by
  have h1 := Int.mul_ediv_add_emod (a + b - 1) b
  have h2 := Int.emod_nonneg (a + b - 1) (show b ≠ 0 by omega)
  have h3 := Int.emod_lt_of_pos (a + b - 1) (show 0 < b by omega)
  rw [Int.mul_comm]
  constructor <;> omega
def shareB (n k i : Int) : Int := n / k + (if i < n % k then 1 else 0)
theorem shares_from (n kk : Int) (hn : 0 ≤ n) (hn1 : n ≤ 1000000000) (hk : 1 ≤ kk) (hk1 : kk ≤ 64) : ∀ (d : Nat) (i : Int) (acc : List Int), kk - i = d → 0 ≤ i → acc.length = i.toNat →
    ∃ r, Ev (fun k => spec_EvenShares.l0 k n kk acc i) (acc ++ r, 0) ∧ (0 < d → ∃ r', r = shareB n kk i :: r') := by
  have q0 := Int.ediv_nonneg (a := n) (b := kk) (by omega) (by omega)
  have q1 := Int.ediv_le_self (a := n) kk (by omega)
  have m0 := Int.emod_nonneg n (show kk ≠ 0 by omega)
  have m1 := Int.emod_lt_of_pos n (show 0 < kk by omega)
  have ed : Int.tdiv n kk = n / kk := Int.tdiv_eq_ediv_of_nonneg (by omega)
  have em : Int.tmod n kk = n % kk := Int.tmod_eq_emod_of_nonneg (by omega)
  intro d
  induction d with
  | zero =>
    intro i acc hd h0 ha
    refine ⟨[], ?_, fun h => absurd h (by omega)⟩
    refine Ev.step (fun k => by rw [spec_EvenShares.l0]) ?_
    simp only [if_neg (show ¬ i < kk by omega), List.append_nil]
    exact Ev.now _
  | succ d ih =>
    intro i acc hd h0 ha
    obtain ⟨r, hr, _⟩ := ih (i + 1) (acc ++ [shareB n kk i]) (by omega) (by omega) (by simp; omega)
    refine ⟨shareB n kk i :: r, ?_, fun _ => ⟨r, rfl⟩⟩
    refine Ev.step (fun k => by rw [spec_EvenShares.l0]) ?_
    simp only [if_pos (show i < kk by omega), if_neg (show ¬ kk = 0 by omega), ed, em, if_pos (show acc.length < 17592186044416 by omega), w64 (x := n / kk) (by omega) (by omega), w64 (x := n / kk + 1) (by omega) (by omega), w64 (x := i + 1) (by omega) (by omega)]
    simp only [List.append_assoc, List.singleton_append] at hr
    by_cases h : i < n % kk
    · simp only [if_pos h]
      simp only [shareB, if_pos h] at hr ⊢
      exact hr
    · simp only [if_neg h]
      simp only [shareB, if_neg h, Int.add_zero] at hr ⊢
      exact hr
theorem even_shares (n kk : Int) (hn : 0 ≤ n) (hn1 : n ≤ 1000000000) (hk : 1 ≤ kk) (hk1 : kk ≤ 64) : ∃ r, Ev (fun k => spec_EvenShares.f k n kk) (shareB n kk 0 :: r, 0) := by
  obtain ⟨r, hr, h1⟩ := shares_from n kk hn hn1 hk hk1 kk.toNat 0 [] (by omega) (by omega) rfl
  obtain ⟨r', rfl⟩ := h1 (by omega)
  refine ⟨r', ?_⟩
  simp only [spec_EvenShares.f, l01In, inR_iff.2 ⟨hn, hn1⟩, inR_iff.2 ⟨hk, hk1⟩, Option.bind_some, if_true, Bool.not_true]
  refine Ev.step (fun k => by rw [spec_EvenShares.j0]) ?_
  simpa using hr
theorem share_quo (n kk : Int) (hn : 0 ≤ n) (hn1 : n ≤ 1000000000) (hk : 1 ≤ kk) (hk1 : kk ≤ 64) : shareB n kk 0 = quo n kk := by
  rw [quo_eq hn (by omega) hk (by omega), ceil_eq hk]
  rfl
theorem quo_zero_iff (n kk : Int) (hn : 0 ≤ n) (hn1 : n ≤ 1000000000) (hk : 1 ≤ kk) (hk1 : kk ≤ 64) : quo n kk = 0 ↔ n = 0 := by
  rw [quo_eq hn (by omega) hk (by omega)]
  obtain ⟨h1, h2⟩ := ceil_spec (a := n) (b := kk) hk
  constructor
  · intro h; rw [h] at h1; omega
  · intro h; subst h; exact Int.ediv_eq_zero_of_lt (by omega) (by omega)
theorem spec_ShareTime (a b c n m : Int) : Ev (fun k => spec_ShareTime.f k a b c n m)
    (if codeOf (stepB a b c) n = 0 ∧ inR m 1 64 = true then (if n = 0 then (0, 0) else (minB a b (quo n m), 0)) else if codeOf (stepB a b c) n = 0 then (0, 2) else (0, codeOf (stepB a b c) n)) := by
  simp only [spec_ShareTime.f, spec_IsStep, l19Code, l01In, Option.bind_some]
  by_cases hc : codeOf (stepB a b c) n = 0
  · obtain ⟨hs, h0, h1⟩ := codeOf_zero hc
    simp only [hc]
    refine Ev.step (fun k => by rw [spec_ShareTime.j0]) ?_
    cases hm : inR m 1 64
    · simp only [Bool.not_false, if_true]
      refine Ev.step (fun k => by rw [spec_ShareTime.j1]) ?_
      exact ev_eq (Ev.now _) (by simp)
    · obtain ⟨k0, k1⟩ := inR_iff.1 hm
      simp only [Bool.not_true, Bool.false_eq_true, if_false]
      refine Ev.step (fun k => by rw [spec_ShareTime.j1]) ?_
      obtain ⟨r, hr⟩ := even_shares n m h0 (by omega) k0 k1
      simp only [if_true]
      rw [share_quo n m h0 (by omega) k0 k1] at hr
      refine Ev.bind hr ?_
      have e0 : rd (quo n m :: r) 0 = quo n m := rfl
      have e2 := quo_zero_iff n m h0 (by omega) k0 k1
      simp only [e0, List.length_cons, if_pos (show (0 : Int) < ((r.length + 1 : Nat) : Int) by omega), l19Time a b c _ hs, Option.bind_some]
      by_cases hz : n = 0
      · simp only [if_pos (e2.2 hz), and_self, if_true, if_pos hz]
        exact Ev.now _
      · simp only [if_neg (fun h => hz (e2.1 h)), and_self, if_true, if_neg hz]
        exact Ev.now _
  · simp only [if_neg hc]
    refine Ev.step (fun k => by rw [spec_ShareTime.j0]) ?_
    simp only [Bool.false_eq_true, if_false]
    refine Ev.step (fun k => by rw [spec_ShareTime.j1]) ?_
    simp only [if_neg hc]
    exact ev_eq (Ev.now _) (by simp [hc])
theorem impl_ShareTime (a b c n m : Int) : Ev (fun k => impl_ShareTime.f k a b c n m)
    (if codeOf (stepB a b c) n = 0 ∧ inR m 1 64 = true then (if n = 0 then (0, 0) else (minB a b (quo n m), 0)) else if codeOf (stepB a b c) n = 0 then (0, 2) else (0, codeOf (stepB a b c) n)) := by
  simp only [impl_ShareTime.f, impl_IsStep, impl_isRun.f, inRange, Option.bind_some]
  cases hs : stepB a b c
  · simp only [Bool.false_eq_true, if_false]
    exact ev_eq (Ev.now _) (by simp [codeOf])
  · simp only [if_true]
    cases hn : inR n 0 1000000
    · simp only [Bool.false_eq_true, if_false]
      refine Ev.step (fun k => by rw [impl_ShareTime.j0]) ?_
      exact ev_eq (Ev.now _) (by simp [codeOf, hn])
    · simp only [if_true]
      refine Ev.step (fun k => by rw [impl_ShareTime.j0]) ?_
      cases hm : inR m 1 64
      · simp only [Bool.not_false, if_true]
        exact ev_eq (Ev.now _) (by simp [codeOf, hn])
      · obtain ⟨k0, k1⟩ := inR_iff.1 hm
        simp only [Bool.not_true, Bool.false_eq_true, if_false]
        by_cases hz : n = 0
        · simp only [if_pos hz]
          exact ev_eq (Ev.now _) (by rw [if_pos ⟨by simp [codeOf, hn], by simp⟩])
        · simp only [if_neg hz, quotient n m (by omega), minutesOf a b c _ hs, Option.bind_some]
          exact ev_eq (Ev.now _) (by simp [codeOf, hn])
theorem ceil_le {a b q : Int} (hb : 1 ≤ b) (h : a ≤ q * b) : (a + b - 1) / b ≤ q := by
  obtain ⟨_, h2⟩ := ceil_spec (a := a) hb
  apply Int.le_of_not_gt
  intro hc
  have := Int.mul_le_mul_of_nonneg_right (show q + 1 ≤ (a + b - 1) / b by omega) (show 0 ≤ b by omega)
  rw [Int.add_mul, Int.one_mul] at this
  omega
theorem lt_ceil {a b q : Int} (hb : 1 ≤ b) (h : q * b < a) : q < (a + b - 1) / b := by
  obtain ⟨h1, _⟩ := ceil_spec (a := a) hb
  apply Int.lt_of_not_ge
  intro hc
  have := Int.mul_le_mul_of_nonneg_right hc (show 0 ≤ b by omega)
  omega
theorem ceil_mono {a a' b : Int} (hb : 1 ≤ b) (h : a ≤ a') : (a + b - 1) / b ≤ (a' + b - 1) / b := Int.ediv_le_ediv (by omega) (by omega)
theorem ceil_anti {a b b' : Int} (ha : 0 ≤ a) (hb : 1 ≤ b) (h : b ≤ b') : (a + b' - 1) / b' ≤ (a + b - 1) / b := by
  apply ceil_le (by omega)
  obtain ⟨h1, _⟩ := ceil_spec (a := a) hb
  have h0 := Int.ediv_nonneg (a := a + b - 1) (b := b) (by omega) (by omega)
  have := Int.mul_le_mul_of_nonneg_left h h0
  omega
theorem stepB_range {a b c : Int} (h : stepB a b c = true) : 0 ≤ a ∧ a ≤ 10000 ∧ 1 ≤ b ∧ b ≤ 100000 ∧ 0 ≤ c ∧ c ≤ 500 := by
  simp only [stepB, Bool.and_eq_true, inR_iff] at h
  omega
theorem minB_eq {a b n : Int} (ha : 0 ≤ a) (ha1 : a ≤ 10000) (hb : 1 ≤ b) (hb1 : b ≤ 100000) (hn : 0 ≤ n) (hn1 : n ≤ 1000000) : minB a b n = a + (60 * n + b - 1) / b ∧ 0 ≤ (60 * n + b - 1) / b ∧ (60 * n + b - 1) / b ≤ 60000000 := by
  have h0 := Int.ediv_nonneg (a := 60 * n + b - 1) (b := b) (by omega) (by omega)
  have h1 : (60 * n + b - 1) / b ≤ 60 * n := ceil_le hb (by
    have := Int.mul_le_mul_of_nonneg_left hb (show 0 ≤ 60 * n by omega)
    omega)
  refine ⟨?_, h0, by omega⟩
  unfold minB
  rw [w64 (x := 60 * n) (by omega) (by omega), quo_eq (by omega) (by omega) hb (by omega), w64 (by omega) (by omega)]
def stepT (a b c n : Int) : Int × Int := if codeOf (stepB a b c) n = 0 then (minB a b n, 0) else (0, codeOf (stepB a b c) n)
theorem spec_StepTime (a b c n : Int) : spec_StepTime.f a b c n = some (stepT a b c n) := by
  simp only [spec_StepTime.f, spec_IsStep, l19Code, Option.bind_some, stepT]
  by_cases hc : codeOf (stepB a b c) n = 0
  · simp only [if_pos hc, l19Time a b c n (codeOf_zero hc).1, Option.bind_some]
  · simp only [if_neg hc]
theorem impl_StepTime (a b c n : Int) : impl_StepTime.f a b c n = some (stepT a b c n) := by
  simp only [impl_StepTime.f, impl_IsStep, impl_isRun.f, inRange, Option.bind_some, stepT]
  cases h0 : stepB a b c <;> cases h1 : inR n 0 1000000 <;> simp [codeOf, h1, minutesOf a b c n, h0]
def itemsB (a b c m : Int) : Int × Int := if stepB a b c = true then (if inR m 0 1000000000 = true then (if m < a then (0, 4) else (mn 1000000 (wrap64 (Int.tdiv (wrap64 ((wrap64 (m - a)) * b)) 60)), 0)) else (0, 2)) else (0, 1)
theorem spec_ItemsIn (a b c m : Int) : spec_ItemsIn.f a b c m = some (itemsB a b c m) := by
  simp only [spec_ItemsIn.f, spec_IsStep, l01In, Option.bind_some, itemsB]
  cases stepB a b c <;> cases inR m 0 1000000000 <;> by_cases h : m < a <;> simp [h]
theorem impl_ItemsIn (a b c m : Int) : impl_ItemsIn.f a b c m = some (itemsB a b c m) := by
  simp only [impl_ItemsIn.f, impl_IsStep, inRange, Option.bind_some, itemsB]
  cases stepB a b c <;> cases inR m 0 1000000000 <;> by_cases h : m < a <;> simp [h]
theorem items_ok {a b c m : Int} (h : (itemsB a b c m).2 = 0) : stepB a b c = true ∧ 0 ≤ (itemsB a b c m).1 ∧ (itemsB a b c m).1 ≤ 1000000 ∧ minB a b (itemsB a b c m).1 ≤ m ∧ ((itemsB a b c m).1 < 1000000 → m < minB a b ((itemsB a b c m).1 + 1)) := by
  unfold itemsB at h ⊢
  by_cases h1 : stepB a b c = true
  · rw [if_pos h1] at h ⊢
    by_cases h2 : inR m 0 1000000000 = true
    · rw [if_pos h2] at h ⊢
      by_cases h3 : m < a
      · rw [if_pos h3] at h; simp at h
      · rw [if_neg h3] at h ⊢
        obtain ⟨a0, a1, b0, b1, _⟩ := stepB_range h1
        obtain ⟨m0, m1⟩ := inR_iff.1 h2
        have p0 := Int.mul_nonneg (show 0 ≤ m - a by omega) (show 0 ≤ b by omega)
        have p1 := Int.mul_le_mul (show m - a ≤ 1000000000 by omega) b1 (by omega) (by omega)
        have e : wrap64 (Int.tdiv (wrap64 ((wrap64 (m - a)) * b)) 60) = (m - a) * b / 60 := by
          rw [w64 (x := m - a) (by omega) (by omega), w64 (x := (m - a) * b) (by omega) (by omega), Int.tdiv_eq_ediv_of_nonneg p0, w64 (by omega) (by omega)]
        simp only [e]
        generalize hP : (m - a) * b = P at p0 p1
        have em : mn 1000000 (P / 60) = if P / 60 < 1000000 then P / 60 else 1000000 := rfl
        rw [em]
        by_cases h4 : P / 60 < 1000000
        · rw [if_pos h4]
          obtain ⟨e1, _, _⟩ := minB_eq a0 a1 b0 b1 (n := P / 60) (by omega) (by omega)
          obtain ⟨e2, _, _⟩ := minB_eq a0 a1 b0 b1 (n := P / 60 + 1) (by omega) (by omega)
          have c1 : (60 * (P / 60) + b - 1) / b ≤ m - a := ceil_le b0 (by omega)
          have c2 : m - a < (60 * (P / 60 + 1) + b - 1) / b := lt_ceil b0 (by omega)
          refine ⟨h1, by omega, by omega, by rw [e1]; omega, fun _ => by rw [e2]; omega⟩
        · rw [if_neg h4]
          obtain ⟨e1, _, _⟩ := minB_eq a0 a1 b0 b1 (n := 1000000) (by omega) (by omega)
          have c1 : (60 * 1000000 + b - 1) / b ≤ m - a := ceil_le b0 (by omega)
          refine ⟨h1, by omega, by omega, by rw [e1]; omega, fun h => by omega⟩
    · rw [if_neg h2] at h; simp at h
  · rw [if_neg h1] at h; simp at h
def shareT (a b c n m : Int) : Int × Int := if codeOf (stepB a b c) n = 0 ∧ inR m 1 64 = true then (if n = 0 then (0, 0) else (minB a b (quo n m), 0)) else if codeOf (stepB a b c) n = 0 then (0, 2) else (0, codeOf (stepB a b c) n)
theorem quo_small {n m : Int} (hn : 0 ≤ n) (hn1 : n ≤ 1000000) (hm : 1 ≤ m) (hm1 : m ≤ 64) : 0 ≤ quo n m ∧ quo n m ≤ n ∧ quo n m = (n + m - 1) / m := by
  have e := quo_eq hn (show n ≤ 4000000000000000000 by omega) hm (by omega)
  have h0 := Int.ediv_nonneg (a := n + m - 1) (b := m) (by omega) (by omega)
  have h1 : (n + m - 1) / m ≤ n := ceil_le hm (by have := Int.mul_le_mul_of_nonneg_left hm hn; omega)
  omega
theorem FnTimes : laws_FnTimes.Pure := by
  intro c hl hb
  refine Ev.rounds (g := fun k => laws_FnTimes.f k c) ?_
  simp only [laws_FnTimes.f, laws_big.f, Option.bind_some]
  by_cases hbig : (c.length : Int) > 4096
  · simp only [decide_eq_true hbig, if_true]
    exact Ev.now _
  simp only [decide_eq_false hbig, Bool.false_eq_true, if_false]
  obtain ⟨x, y, z, n, m, d1⟩ := draw_share c hb (by omega)
  obtain ⟨x2, y2, z2, n2, d2⟩ := draw_steptime c hb (by omega)
  obtain ⟨x3, y3, z3, n3, d3⟩ := draw_itemsin c hb (by omega)
  refine Ev.bind d1 ?_
  refine Ev.bind (a := shareT x y z n m) (impl_ShareTime x y z n m) ?_
  refine Ev.bind (a := shareT x y z n m) (spec_ShareTime x y z n m) ?_
  refine Ev.bind d2 ?_
  simp only [impl_StepTime, spec_StepTime, Option.bind_some]
  refine Ev.bind d3 ?_
  simp only [impl_ItemsIn, spec_ItemsIn, Option.bind_some, if_true, impl_IsStep, spec_IsStep, bne_self_eq_false]
  have J2 : Ev (fun k => laws_FnTimes.j2 k n m (shareT x y z n m).1 (shareT x y z n m).2 x y z) true := by
    refine Ev.step (fun k => by rw [laws_FnTimes.j2]) ?_
    by_cases h0 : (shareT x y z n m).2 = 0
    · simp only [if_pos h0]
      have hcm : codeOf (stepB x y z) n = 0 ∧ inR m 1 64 = true := by
        by_cases h : codeOf (stepB x y z) n = 0 ∧ inR m 1 64 = true
        · exact h
        · unfold shareT at h0
          rw [if_neg h] at h0
          by_cases h' : codeOf (stepB x y z) n = 0
          · rw [if_pos h'] at h0; simp at h0
          · rw [if_neg h'] at h0; exact absurd h0 h'
      obtain ⟨hc, hm⟩ := hcm
      obtain ⟨hs, n0, n1⟩ := codeOf_zero hc
      obtain ⟨m0, m1⟩ := inR_iff.1 hm
      obtain ⟨a0, a1, b0, b1, _⟩ := stepB_range hs
      have em : mx 1 (wrap64 (m - 1)) = if 1 < m - 1 then m - 1 else 1 := by rw [w64 (x := m - 1) (by omega) (by omega)]; rfl
      obtain ⟨q, hq⟩ : ∃ q, mx 1 (wrap64 (m - 1)) = q := ⟨_, rfl⟩
      have hq1 : 1 ≤ q ∧ q ≤ m ∧ q ≤ 64 := by rw [hq] at em; split at em <;> omega
      have hiq : inR q 1 64 = true := inR_iff.2 (by omega)
      have hi1 : inR (1 : Int) 1 64 = true := by decide
      rw [hq]
      refine Ev.bind (a := shareT x y z n q) (impl_ShareTime x y z n q) ?_
      refine Ev.bind (a := shareT x y z n 1) (impl_ShareTime x y z n 1) ?_
      have es : stepT x y z n = (minB x y n, 0) := by unfold stepT; rw [if_pos hc]
      have e1 : shareT x y z n m = if n = 0 then (0, 0) else (minB x y (quo n m), 0) := by unfold shareT; rw [if_pos ⟨hc, hm⟩]
      have e2 : shareT x y z n q = if n = 0 then (0, 0) else (minB x y (quo n q), 0) := by unfold shareT; rw [if_pos ⟨hc, hiq⟩]
      have e3 : shareT x y z n 1 = if n = 0 then (0, 0) else (minB x y (quo n 1), 0) := by unfold shareT; rw [if_pos ⟨hc, hi1⟩]
      simp only [impl_StepTime, Option.bind_some]
      rw [e1, e2, e3, es]
      by_cases hz : n = 0
      · simp only [if_pos hz, if_true, Int.le_refl]
        exact Ev.now _
      · obtain ⟨k0, k1, k2⟩ := quo_small n0 n1 m0 m1
        obtain ⟨g0, g1, g2⟩ := quo_small n0 n1 hq1.1 hq1.2.2
        have h1 : quo n 1 = n := by rw [(quo_small n0 n1 (by omega) (by omega)).2.2]; omega
        have hle : quo n m ≤ quo n q := by rw [k2, g2]; exact ceil_anti n0 hq1.1 hq1.2.1
        obtain ⟨f1, _, _⟩ := minB_eq a0 a1 b0 b1 (n := quo n m) (by omega) (by omega)
        obtain ⟨f2, _, _⟩ := minB_eq a0 a1 b0 b1 (n := quo n q) (by omega) (by omega)
        have := ceil_mono (a := 60 * quo n m) (a' := 60 * quo n q) b0 (by omega)
        simp only [if_neg hz, if_true, if_pos (show minB x y (quo n m) ≤ minB x y (quo n q) by rw [f1, f2]; omega), h1, beq_self_eq_true]
        exact Ev.now _
    · simp only [if_neg h0]
      exact Ev.now _
  have J1 : Ev (fun k => laws_FnTimes.j1 k n m (shareT x y z n m).1 (shareT x y z n m).2 n3 (itemsB x3 y3 z3 n3).1 (itemsB x3 y3 z3 n3).2 x y z x3 y3 z3) true := by
    refine Ev.step (fun k => by rw [laws_FnTimes.j1]) ?_
    by_cases h0 : (itemsB x3 y3 z3 n3).2 = 0
    · obtain ⟨hs, i0, i1, i2, i3⟩ := items_ok h0
      have hc : codeOf (stepB x3 y3 z3) (itemsB x3 y3 z3 n3).1 = 0 := by simp only [codeOf, hs, if_true, inR_iff.2 ⟨i0, i1⟩]
      have es : stepT x3 y3 z3 (itemsB x3 y3 z3 n3).1 = (minB x3 y3 (itemsB x3 y3 z3 n3).1, 0) := by unfold stepT; rw [if_pos hc]
      simp only [if_pos h0, impl_StepTime, Option.bind_some, es, if_true, if_neg (show ¬ minB x3 y3 (itemsB x3 y3 z3 n3).1 > n3 by omega)]
      by_cases h1 : (stepT x3 y3 z3 (wrap64 ((itemsB x3 y3 z3 n3).1 + 1))).2 = 0
      · have ew : wrap64 ((itemsB x3 y3 z3 n3).1 + 1) = (itemsB x3 y3 z3 n3).1 + 1 := w64 (by omega) (by omega)
        rw [ew] at h1 ⊢
        have hc1 : codeOf (stepB x3 y3 z3) ((itemsB x3 y3 z3 n3).1 + 1) = 0 := by
          unfold stepT at h1
          by_cases h : codeOf (stepB x3 y3 z3) ((itemsB x3 y3 z3 n3).1 + 1) = 0
          · exact h
          · rw [if_neg h] at h1; exact absurd h1 h
        obtain ⟨_, _, r1⟩ := codeOf_zero hc1
        have es1 : stepT x3 y3 z3 ((itemsB x3 y3 z3 n3).1 + 1) = (minB x3 y3 ((itemsB x3 y3 z3 n3).1 + 1), 0) := by unfold stepT; rw [if_pos hc1]
        have := i3 (by omega)
        simp only [es1, if_true, if_neg (show ¬ minB x3 y3 ((itemsB x3 y3 z3 n3).1 + 1) ≤ n3 by omega)]
        exact J2
      · simp only [if_neg h1]
        exact J2
    · simp only [if_neg h0]
      exact J2
  refine Ev.step (fun k => by rw [laws_FnTimes.j0]) ?_
  simp only [Bool.false_eq_true, if_false, impl_StepTime, Option.bind_some]
  by_cases h0 : (stepT x2 y2 z2 n2).2 = 0
  · simp only [if_pos h0]
    by_cases h1 : (stepT x2 y2 z2 (wrap64 (n2 + 1))).2 = 0
    · have hc : codeOf (stepB x2 y2 z2) n2 = 0 := by
        unfold stepT at h0
        by_cases h : codeOf (stepB x2 y2 z2) n2 = 0
        · exact h
        · rw [if_neg h] at h0; exact absurd h0 h
      obtain ⟨hs, k0, k1⟩ := codeOf_zero hc
      have ew : wrap64 (n2 + 1) = n2 + 1 := w64 (by omega) (by omega)
      rw [ew] at h1 ⊢
      have hc1 : codeOf (stepB x2 y2 z2) (n2 + 1) = 0 := by
        unfold stepT at h1
        by_cases h : codeOf (stepB x2 y2 z2) (n2 + 1) = 0
        · exact h
        · rw [if_neg h] at h1; exact absurd h1 h
      obtain ⟨_, _, k2⟩ := codeOf_zero hc1
      obtain ⟨a0, a1, b0, b1, _⟩ := stepB_range hs
      obtain ⟨f1, _, _⟩ := minB_eq a0 a1 b0 b1 (n := n2) (by omega) (by omega)
      obtain ⟨f2, _, _⟩ := minB_eq a0 a1 b0 b1 (n := n2 + 1) (by omega) (by omega)
      have := ceil_mono (a := 60 * n2) (a' := 60 * (n2 + 1)) b0 (by omega)
      have hlt : ¬ (stepT x2 y2 z2 (n2 + 1)).1 < (stepT x2 y2 z2 n2).1 := by
        unfold stepT
        rw [if_pos hc, if_pos hc1]
        simp only [f1, f2]
        omega
      simp only [if_pos h1, if_neg hlt]
      exact J1
    · simp only [if_neg h1]
      exact J1
  · simp only [if_neg h0]
    exact J1

end Go.Proofs.Ythfgdcnngklfoaa.Pure
