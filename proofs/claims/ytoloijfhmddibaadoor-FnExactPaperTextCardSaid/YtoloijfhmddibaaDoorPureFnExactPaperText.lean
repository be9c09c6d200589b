/- The pure statement of law FnExactPaperText: what the printed functions compute answers true at every input. No condition. -/
import Derived.Test.YtoloijfhmddibaaDoorPFnExactPaperTextx2
set_option linter.unusedVariables false
set_option linter.unusedSimpArgs false
namespace Go.Proofs.YtoloijfhmddibaaDoor.Pure
open Go.RowKit Go.Proofs.YtoloijfhmddibaaDoor.PFnExactPaperText Go.Proofs.YtoloijfhmddibaaDoorW.PrintWords Go.Proofs.YtoloijfhmddibaaDoorW.PrintLast Go.Proofs.YtoloijfhmddibaaDoorW.PrintMore


/-! #### Numbers and rounds -/
theorem w64 {x : Int} (h1 : -9223372036854775808 ≤ x) (h2 : x ≤ 9223372036854775807) : wrap64 x = x := by
  unfold wrap64
  omega
theorem wf64 {x : Int} (h : (Lit.int .i64 x).wf = true) : -9223372036854775808 ≤ x ∧ x ≤ 9223372036854775807 := by
  simp only [Lit.wf, IntKind.min, IntKind.max, IntKind.signed, IntKind.bits, Bool.and_eq_true, decide_eq_true_eq, if_true] at h
  omega
theorem ev_of {α : Type} {g : Nat → Option α} {r : α} (h : ∀ k, g k = some r) : Ev g r := ⟨0, fun k _ => h k⟩
theorem ev_eq {α : Type} {g : Nat → Option α} {r r' : α} (h : Ev g r) (e : r = r') : Ev g r' := e ▸ h
/-- A loop over a list: what lies behind, what lies ahead. -/
theorem loop_list {α : Type} (l : List α) (Q : List α → List α → Prop) (h0 : Q l []) (hs : ∀ p x s, l = p ++ x :: s → Q (p ++ [x]) s → Q p (x :: s)) : Q [] l := by
  have h : ∀ s p, l = p ++ s → Q p s := by
    intro s
    induction s with
    | nil => intro p hp; rw [List.append_nil] at hp; rw [← hp]; exact h0
    | cons x s ih => intro p hp; exact hs p x s hp (ih (p ++ [x]) (by simp [hp]))
  exact h l [] rfl
theorem mid_lt {α : Type} {l p s : List α} {x : α} (h : l = p ++ x :: s) : (p.length : Int) < (l.length : Int) := by
  rw [h, List.length_append, List.length_cons]; omega
theorem mid_next {α : Type} {l p s : List α} {x : α} (h : l = p ++ x :: s) (hl : l.length ≤ 9223372036854775807) : wrap64 ((p.length : Int) + 1) = ((p ++ [x]).length : Int) := by
  have := mid_lt h
  rw [w64 (by omega) (by omega), List.length_append]; simp
theorem mid_get {α : Type} {l p s : List α} {x : α} (h : l = p ++ x :: s) (z : α) : l.getD (p.length : Int).toNat z = x := by
  rw [h]; simp
theorem get_mid {α : Type} (p s : List α) (x z : α) : (p ++ x :: s).getD (p.length : Int).toNat z = x := by simp
theorem nat_nn (n : Nat) : (0 : Int) ≤ (n : Int) := by omega
theorem nlt_self {α : Type} (l : List α) : ¬ ((l.length : Int) < (l.length : Int)) := by omega
theorem set_mid {α : Type} (p s : List α) (x y : α) : (p ++ x :: s).set ((p.length : Int).toNat) y = p ++ y :: s := by
  rw [Int.toNat_natCast, List.set_append_right _ _ (Nat.le_refl _)]; simp
theorem nil_or_snoc {α : Type} (p : List α) : p = [] ∨ ∃ q y, p = q ++ [y] := by
  rcases List.eq_nil_or_concat p with h | ⟨q, y, h⟩
  · exact .inl h
  · exact .inr ⟨q, y, by rw [h, List.concat_eq_append]⟩
theorem loop_all {α : Type} (l : List α) (Q : List α → List α → Prop) (h0 : Q l []) (hs : ∀ p x s, l = p ++ x :: s → Q (p ++ [x]) s → Q p (x :: s)) : ∀ s p, l = p ++ s → Q p s := by
  intro s
  induction s with
  | nil => intro p hp; rw [List.append_nil] at hp; rw [← hp]; exact h0
  | cons x s ih => intro p hp; exact hs p x s hp (ih (p ++ [x]) (by simp [hp]))
/-- Bytes as a string. -/
def bA (l : List UInt8) : ByteArray := ⟨l.toArray⟩
theorem bA_size (l : List UInt8) : (bA l).size = l.length := by simp [bA, ByteArray.size]
theorem bA_app (a b : List UInt8) : bA a ++ bA b = bA (a ++ b) := by
  apply ByteArray.ext
  simp [bA]
theorem bA_list (l : List UInt8) : (bA l).data.toList = l := by simp [bA]
theorem bA_dig (u : Nat) (h : u < 10) : strOfNums ([(wrap64 (48 + (u : Int))) % 256] : List Int) = bA [UInt8.ofNat (48 + u)] := by
  rw [w64 (by omega) (by omega)]
  have e : ((48 + (u : Int)) % 256).toNat = 48 + u := by omega
  simp only [strOfNums, bA, List.map_cons, List.map_nil, e]
theorem dec_len : ∀ (n u : Nat), u ≤ n → (Lib.decDigits u).length ≤ u + 1 := by
  intro n
  induction n with
  | zero => intro u h; rw [show u = 0 by omega, Lib.decDigits, dif_pos (by decide)]; simp
  | succ n ih =>
    intro u h
    rw [Lib.decDigits]
    by_cases h1 : u < 10
    · rw [dif_pos h1]; simp
    · rw [dif_neg h1]
      have := ih (u / 10) (by omega)
      simp only [List.length_append, List.length_singleton]
      omega
theorem spec_dec : ∀ (n u : Nat), u ≤ n → u ≤ 1000000000000000000 → Ev (fun k => spec_l01Dec.f k (u : Int)) (bA (Lib.decDigits u)) := by
  intro n
  induction n with
  | zero =>
    intro u h _
    rw [show u = 0 by omega]
    refine Ev.step (fun k => by rw [spec_l01Dec.f]) ?_
    simp only [if_pos (show ((0 : Nat) : Int) < 10 by decide)]
    refine ev_eq (Ev.now _) ?_
    rw [bA_dig 0 (by decide), Lib.decDigits, dif_pos (by decide)]
  | succ n ih =>
    intro u h hb
    refine Ev.step (fun k => by rw [spec_l01Dec.f]) ?_
    by_cases h1 : u < 10
    · simp only [if_pos (show (u : Int) < 10 by omega)]
      refine ev_eq (Ev.now _) ?_
      rw [bA_dig u h1, Lib.decDigits, dif_pos h1]
    · have e1 : wrap64 (Int.tdiv (u : Int) 10) = ((u / 10 : Nat) : Int) := by
        rw [show Int.tdiv (u : Int) 10 = ((u / 10 : Nat) : Int) from (Int.ofNat_tdiv u 10).symm]
        exact w64 (by omega) (by omega)
      have e2 : Int.tmod (u : Int) 10 = ((u % 10 : Nat) : Int) := (Int.ofNat_tmod u 10).symm
      have hl := dec_len (u / 10) (u / 10) (Nat.le_refl _)
      simp only [if_neg (show ¬ (u : Int) < 10 by omega), e1, e2, Option.bind_some, bA_dig (u % 10) (by omega)]
      refine Ev.bind (ih (u / 10) (by omega) (by omega)) ?_
      simp only [bA_size, List.length_singleton, if_pos (show (Lib.decDigits (u / 10)).length + 1 ≤ 9223372036854775807 by omega)]
      refine ev_eq (Ev.now _) ?_
      rw [bA_app]
      conv => rhs; rw [Lib.decDigits, dif_neg h1]
/-- A number that is none below zero, by what the program calls. -/
theorem impl_dec (u : Nat) (h : u ≤ 1000000000000000000) : impl_decimal.f (u : Int) = some (bA (Lib.decDigits u)) := by
  have e : Lib.itoa (u : Int) = Lib.decDigits u := by
    unfold Lib.itoa
    rw [if_neg (by omega), Int.toNat_natCast]
  simp only [impl_decimal.f, strconv_FormatInt_51.f, if_true, if_pos (show (-9223372036854775808 : Int) ≤ (u : Int) by omega), if_pos (show (u : Int) ≤ 9223372036854775807 by omega), e, Option.bind_some]
  rfl
def inR (a lo hi : Int) : Bool := decide (lo ≤ a) && decide (a ≤ hi)
theorem inR_iff {a lo hi : Int} : inR a lo hi = true ↔ lo ≤ a ∧ a ≤ hi := by simp [inR]
theorem l01In (a lo hi : Int) : spec_l01In.f a lo hi = some (inR a lo hi) := by
  unfold spec_l01In.f inR
  split
  · rename_i h; rw [decide_eq_true (show lo ≤ a from h), Bool.true_and]
  · rename_i h; rw [decide_eq_false (show ¬ lo ≤ a from h), Bool.false_and]
theorem inRange (a lo hi : Int) : impl_inRange.f a lo hi = some (inR a lo hi) := by
  unfold impl_inRange.f inR
  split
  · rename_i h; rw [decide_eq_true (show lo ≤ a from h), Bool.true_and]
  · rename_i h; rw [decide_eq_false (show ¬ lo ≤ a from h), Bool.false_and]
def paperB (a b : Int) : Bool := inR a 30 500 && inR b 50 300
theorem spec_IsPaper (a b : Int) : spec_IsPaper.f a b = some (paperB a b) := by
  simp only [spec_IsPaper.f, l01In, Option.bind_some, paperB]
  cases inR a 30 500 <;> cases inR b 50 300 <;> rfl
theorem impl_IsPaper (a b : Int) : impl_IsPaper.f a b = some (paperB a b) := by
  simp only [impl_IsPaper.f, inRange, Option.bind_some, paperB]
  cases inR a 30 500 <;> cases inR b 50 300 <;> rfl
def paperL (a b : Int) : List UInt8 := Lib.decDigits a.toNat ++ [47] ++ Lib.decDigits b.toNat
theorem paper_range {a b : Int} (h : paperB a b = true) : (0 ≤ a ∧ a ≤ 1000) ∧ (0 ≤ b ∧ b ≤ 1000) := by
  simp only [paperB, Bool.and_eq_true, inR_iff] at h
  omega
theorem both_PaperText (a b : Int) : Ev (fun k => spec_PaperText.f k a b) (if paperB a b = true then bA (paperL a b) else bA []) ∧ impl_PaperText.f a b = some (if paperB a b = true then bA (paperL a b) else bA []) := by
  simp only [spec_PaperText.f, impl_PaperText.f, spec_IsPaper, impl_IsPaper, Option.bind_some]
  cases h : paperB a b
  · simp only [Bool.false_eq_true, if_false]
    exact ⟨Ev.now _, rfl⟩
  · obtain ⟨h0, h1⟩ := paper_range h
    have d0 := dec_len a.toNat a.toNat (Nat.le_refl _)
    have d1 := dec_len b.toNat b.toNat (Nat.le_refl _)
    have n0 := spec_dec a.toNat a.toNat (Nat.le_refl _) (by omega)
    have n1 := spec_dec b.toNat b.toNat (Nat.le_refl _) (by omega)
    have m0 := impl_dec a.toNat (by omega)
    have m1 := impl_dec b.toNat (by omega)
    rw [show ((a.toNat : Nat) : Int) = a by omega] at n0 m0
    rw [show ((b.toNat : Nat) : Int) = b by omega] at n1 m1
    have c : (⟨#[47]⟩ : ByteArray) = bA [47] := rfl
    simp only [if_true, m0, m1, Option.bind_some, c, bA_size, bA_app, List.length_append, List.length_singleton, if_pos (show (Lib.decDigits a.toNat).length + 1 ≤ 9223372036854775807 by omega), if_pos (show (Lib.decDigits a.toNat).length + 1 + (Lib.decDigits b.toNat).length ≤ 9223372036854775807 by omega)]
    refine ⟨?_, rfl⟩
    refine Ev.bind n0 ?_
    simp only [bA_size, if_pos (show (Lib.decDigits a.toNat).length + 1 ≤ 9223372036854775807 by omega)]
    refine Ev.bind n1 ?_
    simp only [bA_size, bA_app, List.length_append, List.length_singleton, if_pos (show (Lib.decDigits a.toNat).length + 1 + (Lib.decDigits b.toNat).length ≤ 9223372036854775807 by omega)]
    exact Ev.now _
theorem FnExactPaperText : laws_FnExactPaperText.Pure := by
  intro a b _ _
  refine Ev.rounds (g := fun k => laws_FnExactPaperText.f k a b) ?_
  obtain ⟨h1, h2⟩ := both_PaperText a b
  simp only [laws_FnExactPaperText.f, laws_toPaper.f, Option.bind_some, h2]
  refine Ev.bind h1 ?_
  simp only [if_true]
  exact Ev.now _

end Go.Proofs.YtoloijfhmddibaaDoor.Pure
