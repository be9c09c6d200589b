/- The pure statement of law FnExactReadPaper: what the printed functions compute answers true at every input. No condition. -/
import Derived.Test.YtoloijfhmddibaaDoorPFnExactReadPaperx5
set_option linter.unusedVariables false
set_option linter.unusedSimpArgs false
namespace Go.Proofs.YtoloijfhmddibaaDoor.Pure
open Go.RowKit Go.Proofs.YtoloijfhmddibaaDoor.PFnExactReadPaper Go.Proofs.YtoloijfhmddibaaDoorW.PrintWords Go.Proofs.YtoloijfhmddibaaDoorW.PrintLast Go.Proofs.YtoloijfhmddibaaDoorW.PrintMore


/-! #### Numbers and rounds -/
theorem w64 {x : Int} (h1 : -9223372036854775808 ≤ x) (h2 : x ≤ 9223372036854775807) : wrap64 x = x := by
  unfold wrap64
  omega
theorem wf64 {x : Int} (h : (Lit.int .i64 x).wf = true) : -9223372036854775808 ≤ x ∧ x ≤ 9223372036854775807 := by
  simp only [Lit.wf, IntKind.min, IntKind.max, IntKind.signed, IntKind.bits, Bool.and_eq_true, decide_eq_true_eq, if_true] at h
  omega
theorem ev_of {α : Type} {g : Nat → Option α} {r : α} (h : ∀ k, g k = some r) : Ev g r := ⟨0, fun k _ => h k⟩
theorem ev_eq {α : Type} {g : Nat → Option α} {r r' : α} (h : Ev g r) (e : r = r') : Ev g r' := e ▸ h
/-- A loop over a list: what lies behind, what lies ahead. -/
theorem loop_list {α : Type} (l : List α) (Q : List α → List α → Prop) (h0 : Q l []) (hs : ∀ p x s, l = p ++ x :: s → Q (p ++ [x]) s → Q p (x :: s)) : Q [] l := by
  have h : ∀ s p, l = p ++ s → Q p s := by
    intro s
    induction s with
    | nil => intro p hp; rw [List.append_nil] at hp; rw [← hp]; exact h0
    | cons x s ih => intro p hp; exact hs p x s hp (ih (p ++ [x]) (by simp [hp]))
  exact h l [] rfl
theorem mid_lt {α : Type} {l p s : List α} {x : α} (h : l = p ++ x :: s) : (p.length : Int) < (l.length : Int) := by
  rw [h, List.length_append, List.length_cons]; omega
theorem mid_next {α : Type} {l p s : List α} {x : α} (h : l = p ++ x :: s) (hl : l.length ≤ 9223372036854775807) : wrap64 ((p.length : Int) + 1) = ((p ++ [x]).length : Int) := by
  have := mid_lt h
  rw [w64 (by omega) (by omega), List.length_append]; simp
theorem mid_get {α : Type} {l p s : List α} {x : α} (h : l = p ++ x :: s) (z : α) : l.getD (p.length : Int).toNat z = x := by
  rw [h]; simp
theorem get_mid {α : Type} (p s : List α) (x z : α) : (p ++ x :: s).getD (p.length : Int).toNat z = x := by simp
theorem nat_nn (n : Nat) : (0 : Int) ≤ (n : Int) := by omega
theorem nlt_self {α : Type} (l : List α) : ¬ ((l.length : Int) < (l.length : Int)) := by omega
theorem set_mid {α : Type} (p s : List α) (x y : α) : (p ++ x :: s).set ((p.length : Int).toNat) y = p ++ y :: s := by
  rw [Int.toNat_natCast, List.set_append_right _ _ (Nat.le_refl _)]; simp
theorem nil_or_snoc {α : Type} (p : List α) : p = [] ∨ ∃ q y, p = q ++ [y] := by
  rcases List.eq_nil_or_concat p with h | ⟨q, y, h⟩
  · exact .inl h
  · exact .inr ⟨q, y, by rw [h, List.concat_eq_append]⟩
theorem loop_all {α : Type} (l : List α) (Q : List α → List α → Prop) (h0 : Q l []) (hs : ∀ p x s, l = p ++ x :: s → Q (p ++ [x]) s → Q p (x :: s)) : ∀ s p, l = p ++ s → Q p s := by
  intro s
  induction s with
  | nil => intro p hp; rw [List.append_nil] at hp; rw [← hp]; exact h0
  | cons x s ih => intro p hp; exact hs p x s hp (ih (p ++ [x]) (by simp [hp]))
/-- Bytes as a string. -/
def bA (l : List UInt8) : ByteArray := ⟨l.toArray⟩
theorem bA_size (l : List UInt8) : (bA l).size = l.length := by simp [bA, ByteArray.size]
theorem bA_app (a b : List UInt8) : bA a ++ bA b = bA (a ++ b) := by
  apply ByteArray.ext
  simp [bA]
theorem bA_list (l : List UInt8) : (bA l).data.toList = l := by simp [bA]
theorem bA_dig (u : Nat) (h : u < 10) : strOfNums ([(wrap64 (48 + (u : Int))) % 256] : List Int) = bA [UInt8.ofNat (48 + u)] := by
  rw [w64 (by omega) (by omega)]
  have e : ((48 + (u : Int)) % 256).toNat = 48 + u := by omega
  simp only [strOfNums, bA, List.map_cons, List.map_nil, e]
theorem dec_len : ∀ (n u : Nat), u ≤ n → (Lib.decDigits u).length ≤ u + 1 := by
  intro n
  induction n with
  | zero => intro u h; rw [show u = 0 by omega, Lib.decDigits, dif_pos (by decide)]; simp
  | succ n ih =>
    intro u h
    rw [Lib.decDigits]
    by_cases h1 : u < 10
    · rw [dif_pos h1]; simp
    · rw [dif_neg h1]
      have := ih (u / 10) (by omega)
      simp only [List.length_append, List.length_singleton]
      omega
theorem spec_dec : ∀ (n u : Nat), u ≤ n → u ≤ 1000000000000000000 → Ev (fun k => spec_l01Dec.f k (u : Int)) (bA (Lib.decDigits u)) := by
  intro n
  induction n with
  | zero =>
    intro u h _
    rw [show u = 0 by omega]
    refine Ev.step (fun k => by rw [spec_l01Dec.f]) ?_
    simp only [if_pos (show ((0 : Nat) : Int) < 10 by decide)]
    refine ev_eq (Ev.now _) ?_
    rw [bA_dig 0 (by decide), Lib.decDigits, dif_pos (by decide)]
  | succ n ih =>
    intro u h hb
    refine Ev.step (fun k => by rw [spec_l01Dec.f]) ?_
    by_cases h1 : u < 10
    · simp only [if_pos (show (u : Int) < 10 by omega)]
      refine ev_eq (Ev.now _) ?_
      rw [bA_dig u h1, Lib.decDigits, dif_pos h1]
    · have e1 : wrap64 (Int.tdiv (u : Int) 10) = ((u / 10 : Nat) : Int) := by
        rw [show Int.tdiv (u : Int) 10 = ((u / 10 : Nat) : Int) from (Int.ofNat_tdiv u 10).symm]
        exact w64 (by omega) (by omega)
      have e2 : Int.tmod (u : Int) 10 = ((u % 10 : Nat) : Int) := (Int.ofNat_tmod u 10).symm
      have hl := dec_len (u / 10) (u / 10) (Nat.le_refl _)
      simp only [if_neg (show ¬ (u : Int) < 10 by omega), e1, e2, Option.bind_some, bA_dig (u % 10) (by omega)]
      refine Ev.bind (ih (u / 10) (by omega) (by omega)) ?_
      simp only [bA_size, List.length_singleton, if_pos (show (Lib.decDigits (u / 10)).length + 1 ≤ 9223372036854775807 by omega)]
      refine ev_eq (Ev.now _) ?_
      rw [bA_app]
      conv => rhs; rw [Lib.decDigits, dif_neg h1]
/-- A number that is none below zero, by what the program calls. -/
theorem impl_dec (u : Nat) (h : u ≤ 1000000000000000000) : impl_decimal.f (u : Int) = some (bA (Lib.decDigits u)) := by
  have e : Lib.itoa (u : Int) = Lib.decDigits u := by
    unfold Lib.itoa
    rw [if_neg (by omega), Int.toNat_natCast]
  simp only [impl_decimal.f, strconv_FormatInt_51.f, if_true, if_pos (show (-9223372036854775808 : Int) ≤ (u : Int) by omega), if_pos (show (u : Int) ≤ 9223372036854775807 by omega), e, Option.bind_some]
  rfl
theorem toList_loop (b : ByteArray) : ∀ (d i : Nat) (r : List UInt8), b.size - i ≤ d → ByteArray.toList.loop b i r = r.reverse ++ b.data.toList.drop i := by
  intro d
  induction d with
  | zero =>
    intro i r h
    have hl : b.data.toList.length = b.size := by rw [Array.length_toList]; rfl
    rw [ByteArray.toList.loop, if_neg (by omega), List.drop_eq_nil_of_le (by omega), List.append_nil]
  | succ d ih =>
    intro i r h
    have hl : b.data.toList.length = b.size := by rw [Array.length_toList]; rfl
    by_cases hi : i < b.size
    · rw [ByteArray.toList.loop, if_pos hi, ih (i + 1) _ (by omega), List.drop_eq_getElem_cons (by omega : i < b.data.toList.length)]
      have e : b.get! i = b.data.toList[i]'(by omega) := by
        have : b.get! i = b.data[i]! := rfl
        rw [this, getElem!_pos b.data i (by rw [← Array.length_toList]; omega)]
        simp
      rw [e]
      simp
    · rw [ByteArray.toList.loop, if_neg hi, List.drop_eq_nil_of_le (by omega), List.append_nil]
theorem toList_bA (l : List UInt8) : (bA l).toList = l := by
  have := toList_loop (bA l) (bA l).size 0 [] (by omega)
  rw [ByteArray.toList, this, bA_list]
  rfl
theorem bA_of (b : ByteArray) : b = bA b.data.toList := by cases b; simp [bA]
theorem bt_mid {l p s : List UInt8} {x : UInt8} (h : l = p ++ x :: s) : bt (bA l) (p.length : Int) = (x.toNat : Int) := by
  have hl : p.length < (bA l).size := by rw [bA_size, h]; simp
  rw [← bt_at (bA l) (p.length : Int) (by rw [Int.toNat_natCast]; exact hl)]
  have e : (bA l)[p.length]'hl = x := by
    have : (bA l)[p.length]'hl = l[p.length]'(by rw [bA_size] at hl; exact hl) := by simp [bA]; rfl
    rw [this]
    simp [h]
  simp only [Int.toNat_natCast, e]
/-! #### Digits -/
def isD (c : UInt8) : Prop := 48 ≤ c.toNat ∧ c.toNat ≤ 57
def valF (acc : Nat) (l : List UInt8) : Nat := l.foldl (fun a c => 10 * a + (c.toNat - 48)) acc
theorem dig_toNat {u : Nat} (h : u < 10) : (UInt8.ofNat (48 + u)).toNat = 48 + u := by
  rw [UInt8.toNat_ofNat']
  omega
theorem dec_isD : ∀ (n u : Nat), u ≤ n → ∀ c ∈ Lib.decDigits u, isD c := by
  intro n
  induction n with
  | zero =>
    intro u h c hc
    rw [show u = 0 by omega, Lib.decDigits, dif_pos (by decide)] at hc
    rw [List.mem_singleton.1 hc]
    exact by simp [isD, dig_toNat (show 0 < 10 by decide)]
  | succ n ih =>
    intro u h c hc
    rw [Lib.decDigits] at hc
    by_cases h1 : u < 10
    · rw [dif_pos h1] at hc
      rw [List.mem_singleton.1 hc, isD, dig_toNat h1]
      omega
    · rw [dif_neg h1] at hc
      rcases List.mem_append.1 hc with hc | hc
      · exact ih (u / 10) (by omega) c hc
      · rw [List.mem_singleton.1 hc, isD, dig_toNat (by omega)]
        omega
theorem dec_isD' {u : Nat} {c : UInt8} (h : c ∈ Lib.decDigits u) : isD c := dec_isD u u (Nat.le_refl _) c h
theorem dec_ne (u : Nat) : Lib.decDigits u ≠ [] := by
  rw [Lib.decDigits]
  split <;> simp
theorem dec_val : ∀ (n u : Nat), u ≤ n → valF 0 (Lib.decDigits u) = u := by
  intro n
  induction n with
  | zero =>
    intro u h
    rw [show u = 0 by omega, Lib.decDigits, dif_pos (by decide)]
    simp [valF, dig_toNat (show 0 < 10 by decide)]
  | succ n ih =>
    intro u h
    rw [Lib.decDigits]
    by_cases h1 : u < 10
    · rw [dif_pos h1]
      simp only [valF, List.foldl_cons, List.foldl_nil, dig_toNat h1]
      omega
    · rw [dif_neg h1]
      have e := ih (u / 10) (by omega)
      simp only [valF, List.foldl_append, List.foldl_cons, List.foldl_nil] at e ⊢
      rw [e, dig_toNat (by omega)]
      omega
theorem dec_val' (u : Nat) : valF 0 (Lib.decDigits u) = u := dec_val u u (Nat.le_refl _)
theorem val_le : ∀ (l : List UInt8) (acc : Nat), acc ≤ valF acc l := by
  intro l
  induction l with
  | nil => intro acc; exact Nat.le_refl _
  | cons c l ih => intro acc; exact Nat.le_trans (by omega) (ih (10 * acc + (c.toNat - 48)))
theorem val_lt : ∀ (l : List UInt8) (acc : Nat), (∀ c ∈ l, isD c) → valF acc l < (acc + 1) * 10 ^ l.length := by
  intro l
  induction l with
  | nil => intro acc _; simp [valF]
  | cons c l ih =>
    intro acc h
    have h1 := h c (by simp)
    have h2 := ih (10 * acc + (c.toNat - 48)) (fun x hx => h x (by simp [hx]))
    have h3 : 10 * acc + (c.toNat - 48) + 1 ≤ 10 * (acc + 1) := by unfold isD at h1; omega
    have h4 := Nat.mul_le_mul_right (10 ^ l.length) h3
    have e : (acc + 1) * 10 ^ (c :: l).length = 10 * (acc + 1) * 10 ^ l.length := by
      rw [List.length_cons, Nat.pow_succ, Nat.mul_comm (10 ^ l.length) 10, ← Nat.mul_assoc, Nat.mul_comm (acc + 1) 10]
    rw [e]
    exact Nat.lt_of_lt_of_le h2 h4
theorem dec_lt {u : Nat} (h : (Lib.decDigits u).length ≤ 10) : u < 10000000000 := by
  have h1 := val_lt (Lib.decDigits u) 0 (fun c hc => dec_isD' hc)
  rw [dec_val'] at h1
  have h2 : (10 : Nat) ^ (Lib.decDigits u).length ≤ 10 ^ 10 := Nat.pow_le_pow_right (by decide) h
  have h3 : (10 : Nat) ^ 10 = 10000000000 := by decide
  omega
/-- What a reading of a number must answer. -/
def NumAt (l : List UInt8) (r : Int × Bool) : Prop := (r.2 = true → 0 ≤ r.1 → ∃ u : Nat, r.1 = (u : Int) ∧ l = Lib.decDigits u ∧ l.length ≤ 10) ∧ (∀ u : Nat, l = Lib.decDigits u → l.length ≤ 10 → r = ((u : Int), true))
theorem spec_digits (l : List UInt8) : ∃ r : Int × Bool, Ev (fun k => spec_l01Digits.f k (bA l)) r ∧ (r.2 = true → ∃ u : Nat, r.1 = (u : Int) ∧ l = Lib.decDigits u ∧ l.length ≤ 10) ∧ (∀ u : Nat, l = Lib.decDigits u → l.length ≤ 10 → r = ((u : Int), true)) := by
  simp only [spec_l01Digits.f, bA_size]
  have bad : Ev (fun k => spec_l01Digits.j0 k (bA l) true) ((0 : Int), false) := Ev.step (fun k => by rw [spec_l01Digits.j0, if_pos rfl]) (Ev.now _)
  by_cases h1 : (l.length : Int) < 1
  · refine ⟨(0, false), by simp only [if_pos h1]; exact bad, fun h => by simp at h, fun u hu _ => ?_⟩
    exact absurd (List.length_eq_zero_iff.1 (by omega : l.length = 0)) (hu ▸ dec_ne u)
  simp only [if_neg h1]
  by_cases h2 : (l.length : Int) > 10
  · refine ⟨(0, false), by simp only [decide_eq_true h2]; exact bad, fun h => by simp at h, fun u hu h => by omega⟩
  have hl : l.length ≤ 10 := by omega
  simp only [decide_eq_false h2]
  have H := loop_list l (fun p s => ∀ acc : Nat, acc < 10 ^ p.length → acc = valF 0 p → ∃ r : Int × Bool, Ev (fun k => spec_l01Digits.l0 k (bA l) (acc : Int) (p.length : Int)) r ∧ (r.2 = true → ∃ u : Nat, r.1 = (u : Int) ∧ l = Lib.decDigits u ∧ l.length ≤ 10) ∧ (∀ u : Nat, l = Lib.decDigits u → l.length ≤ 10 → r = ((u : Int), true))) ?_ ?_ 0 (by simp) rfl
  · obtain ⟨r, hr, h3, h4⟩ := H
    refine ⟨r, Ev.step (fun k => by rw [spec_l01Digits.j0]) ?_, h3, h4⟩
    simp only [Bool.false_eq_true, if_false]
    exact hr
  · intro acc ha hv
    have h10 : (10 : Nat) ^ l.length ≤ 10 ^ 10 := Nat.pow_le_pow_right (by decide) hl
    have e10 : (10 : Nat) ^ 10 = 10000000000 := by decide
    refine ⟨((acc : Int), (Lib.decDigits acc == l)), Ev.step (fun k => by rw [spec_l01Digits.l0]) ?_, fun h => ⟨acc, rfl, (beq_iff_eq.1 h).symm, hl⟩, fun u hu _ => ?_⟩
    · simp only [bA_size, if_neg (show ¬ (l.length : Int) < (l.length : Int) by omega)]
      refine Ev.bind (spec_dec acc acc (Nat.le_refl _) (by omega)) ?_
      simp only [toList_bA]
      exact Ev.now _
    · have : acc = u := by rw [hv, hu, dec_val']
      subst this
      simp [← hu]
  · intro p x s he ih acc ha hv
    have hp := mid_lt he
    have hpl : p.length < 10 := by omega
    have h10 : (10 : Nat) ^ p.length ≤ 10 ^ 10 := Nat.pow_le_pow_right (by decide) (by omega)
    have e10 : (10 : Nat) ^ 10 = 10000000000 := by decide
    have hx := bt_mid he
    by_cases c1 : (x.toNat : Int) < 48
    · refine ⟨(0, false), Ev.step (fun k => by rw [spec_l01Digits.l0]) ?_, fun h => by simp at h, fun u hu _ => ?_⟩
      · simp only [bA_size, if_pos hp, if_pos (nat_nn p.length), hx, if_pos c1]
        exact Ev.now _
      · have : isD x := dec_isD' (u := u) (by rw [← hu, he]; simp)
        unfold isD at this
        omega
    by_cases c2 : (x.toNat : Int) > 57
    · refine ⟨(0, false), Ev.step (fun k => by rw [spec_l01Digits.l0]) ?_, fun h => by simp at h, fun u hu _ => ?_⟩
      · simp only [bA_size, if_pos hp, if_pos (nat_nn p.length), hx, if_neg c1, if_pos c2]
        exact Ev.now _
      · have : isD x := dec_isD' (u := u) (by rw [← hu, he]; simp)
        unfold isD at this
        omega
    have ew : wrap64 (wrap64 (10 * (acc : Int)) + ((x.toNat : Int) - 48) % 256) = ((10 * acc + (x.toNat - 48) : Nat) : Int) := by
      rw [w64 (x := 10 * (acc : Int)) (by omega) (by omega), w64 (by omega) (by omega)]
      omega
    obtain ⟨r, hr, h3, h4⟩ := ih (10 * acc + (x.toNat - 48)) (by rw [List.length_append, List.length_singleton, Nat.pow_succ]; omega) (by rw [hv]; simp [valF])
    refine ⟨r, Ev.step (fun k => by rw [spec_l01Digits.l0]) ?_, h3, h4⟩
    simp only [bA_size, if_pos hp, if_pos (nat_nn p.length), hx, if_neg c1, if_neg c2, ew, mid_next he (by omega)]
    exact hr
theorem spec_signed (l : List UInt8) : ∃ r : Int × Bool, Ev (fun k => spec_l01Signed.f k (bA l)) r ∧ NumAt l r := by
  simp only [spec_l01Signed.f, bA_size]
  have plain : ∃ r : Int × Bool, Ev (fun k => spec_l01Signed.j0 k (bA l) false) r ∧ NumAt l r := by
    obtain ⟨r, hr, h1, h2⟩ := spec_digits l
    refine ⟨(r.1, r.2), Ev.step (fun k => by rw [spec_l01Signed.j0]) ?_, fun h _ => h1 h, h2⟩
    simp only [Bool.false_eq_true, if_false]
    exact Ev.bind hr (Ev.now _)
  cases l with
  | nil =>
    obtain ⟨r, hr, h⟩ := plain
    refine ⟨r, ?_, h⟩
    simp only [List.length_nil, if_neg (show ¬ ((0 : Nat) : Int) > 0 by decide)]
    exact hr
  | cons x t =>
    have hx : bt (bA (x :: t)) 0 = (x.toNat : Int) := bt_mid (l := x :: t) (p := []) rfl
    have hpos : ((x :: t).length : Int) > 0 := by simp
    have hpos' : (0 : Int) < ((x :: t).length : Int) := by simp
    by_cases c : (x.toNat : Int) = 45
    · obtain ⟨r, hr, h1, h2⟩ := spec_digits t
      have ex : (bA (x :: t)).extract 1 (bA (x :: t)).size = bA t := by
        apply ByteArray.ext
        rw [← Array.toList_inj]
        simp [bA, ByteArray.size]
      have nodec : ∀ u : Nat, x :: t = Lib.decDigits u → False := by
        intro u hu
        have : isD x := dec_isD' (u := u) (by rw [← hu]; simp)
        unfold isD at this
        omega
      by_cases hr2 : r.2 = true
      · obtain ⟨u, e1, e2, e3⟩ := h1 hr2
        have hu := dec_lt (u := u) (by rw [← e2]; exact e3)
        have en : wrap64 (-(u : Int)) = -(u : Int) := w64 (by omega) (by omega)
        refine ⟨(-(u : Int), decide ((u : Int) > 0)), ?_, fun h h0 => ?_, fun u' hu' _ => (nodec u' hu').elim⟩
        · simp only [if_pos hpos, if_pos hpos', hx, beq_iff_eq.2 c]
          refine Ev.step (fun k => by rw [spec_l01Signed.j0]) ?_
          simp only [if_true, if_pos (show (1 : Int) ≤ ((bA (x :: t)).size : Int) by rw [bA_size]; simp; omega), ex]
          refine Ev.bind hr ?_
          simp only [hr2, if_true, e1, en]
          exact Ev.now _
        · simp only [decide_eq_true_eq] at h
          simp only at h0
          omega
      · refine ⟨(wrap64 (-r.1), false), ?_, fun h => by simp at h, fun u' hu' _ => (nodec u' hu').elim⟩
        simp only [if_pos hpos, if_pos hpos', hx, beq_iff_eq.2 c]
        refine Ev.step (fun k => by rw [spec_l01Signed.j0]) ?_
        simp only [if_true, if_pos (show (1 : Int) ≤ ((bA (x :: t)).size : Int) by rw [bA_size]; simp; omega), ex]
        refine Ev.bind hr ?_
        simp only [if_neg hr2]
        exact Ev.now _
    · obtain ⟨r, hr, h⟩ := plain
      refine ⟨r, ?_, h⟩
      simp only [if_pos hpos, if_pos hpos', hx, beq_eq_false_iff_ne.2 c]
      exact hr
/-- Numbers of a row of strings. -/
def Nums : List Int → List (List UInt8) → Prop
  | [], [] => True
  | n :: ns, l :: ls => (0 ≤ n → ∃ u : Nat, n = (u : Int) ∧ l = Lib.decDigits u ∧ l.length ≤ 10) ∧ Nums ns ls
  | _, _ => False
theorem spec_numbers (ls : List (List UInt8)) (hn : ls.length ≤ 10000000) : ∃ r : List Int × Bool, Ev (fun k => spec_l01Numbers.f k (ls.map bA)) r ∧ (r.2 = true → Nums r.1 ls) ∧ (∀ us : List Nat, ls = us.map Lib.decDigits → (∀ l ∈ ls, l.length ≤ 10) → r = (us.map (fun u : Nat => (u : Int)), true)) := by
  simp only [spec_l01Numbers.f]
  have lm : ((ls.map bA).length : Int) = (ls.length : Int) := by simp
  have H := loop_list ls (fun p s => ∀ acc : List Int, acc.length = p.length → ∃ r : List Int × Bool, Ev (fun k => spec_l01Numbers.l0 k (ls.map bA) acc (p.length : Int)) r ∧ (r.2 = true → ∃ ns, r.1 = acc ++ ns ∧ Nums ns s) ∧ (∀ us : List Nat, s = us.map Lib.decDigits → (∀ l ∈ s, l.length ≤ 10) → r = (acc ++ us.map (fun u : Nat => (u : Int)), true))) ?_ ?_ [] rfl
  · obtain ⟨r, hr, h1, h2⟩ := H
    refine ⟨r, hr, fun h => ?_, by simpa using h2⟩
    obtain ⟨ns, e, hns⟩ := h1 h
    rw [List.nil_append] at e
    rw [e]
    exact hns
  · intro acc _
    refine ⟨(acc, true), Ev.step (fun k => by rw [spec_l01Numbers.l0]) ?_, fun _ => ⟨[], by simp, trivial⟩, fun us hus _ => ?_⟩
    · simp only [lm, if_neg (nlt_self ls)]
      exact Ev.now _
    · have : us = [] := List.map_eq_nil_iff.1 hus.symm
      subst this
      simp
  · intro p x s he ih acc hacc
    have hp := mid_lt he
    have hrd : rdOf ByteArray.empty (ls.map bA) (p.length : Int) = bA x := by
      unfold rdOf
      rw [he]
      simp
    obtain ⟨q, hq, n1, n2⟩ := spec_signed x
    by_cases hq2 : q.2 = true
    · obtain ⟨r, hr, h1, h2⟩ := ih (acc ++ [q.1]) (by simp [hacc])
      refine ⟨r, Ev.step (fun k => by rw [spec_l01Numbers.l0]) ?_, fun h => ?_, fun us hus hlen => ?_⟩
      · simp only [lm, if_pos hp, if_pos (nat_nn p.length), hrd]
        refine Ev.bind hq ?_
        simp only [hq2, if_true, if_pos (show acc.length < 17592186044416 by omega), mid_next he (by omega)]
        exact hr
      · obtain ⟨ns, e, hns⟩ := h1 h
        exact ⟨q.1 :: ns, by rw [e]; simp, n1 hq2, hns⟩
      · cases us with
        | nil => simp at hus
        | cons u us =>
          simp only [List.map_cons, List.cons.injEq] at hus
          have e := n2 u hus.1 (hlen x (by simp))
          rw [h2 us hus.2 (fun l hl => hlen l (by simp [hl])), e]
          simp
    · refine ⟨([], false), Ev.step (fun k => by rw [spec_l01Numbers.l0]) ?_, fun h => by simp at h, fun us hus hlen => ?_⟩
      · simp only [lm, if_pos hp, if_pos (nat_nn p.length), hrd]
        refine Ev.bind hq ?_
        simp only [if_neg hq2]
        exact Ev.now _
      · cases us with
        | nil => simp at hus
        | cons u us =>
          simp only [List.map_cons, List.cons.injEq] at hus
          have e := n2 u hus.1 (hlen x (by simp))
          rw [e] at hq2
          exact absurd rfl hq2
/-! #### Pieces -/
def spl (c : UInt8) (q : List UInt8) : List UInt8 → List (List UInt8)
  | [] => [q]
  | x :: t => if x = c then q :: spl c [] t else spl c (q ++ [x]) t
theorem spl_ne (c : UInt8) : ∀ (t q : List UInt8), spl c q t ≠ [] := by
  intro t
  induction t with
  | nil => intro q; simp [spl]
  | cons x t ih =>
    intro q
    simp only [spl]
    split
    · simp
    · exact ih _
theorem spl_length (c : UInt8) : ∀ (t q : List UInt8), (spl c q t).length ≤ t.length + 1 := by
  intro t
  induction t with
  | nil => intro q; simp [spl]
  | cons x t ih =>
    intro q
    simp only [spl]
    split
    · have := ih []; simp; omega
    · have := ih (q ++ [x]); simp; omega
theorem spl_join (c : UInt8) : ∀ (t q : List UInt8), Lib.join (spl c q t) [c] = q ++ t := by
  intro t
  induction t with
  | nil => intro q; simp [spl, Lib.join_one]
  | cons x t ih =>
    intro q
    simp only [spl]
    split
    · rename_i h
      subst h
      have h1 := ih []
      cases hs : spl x [] t with
      | nil => exact absurd hs (spl_ne _ _ _)
      | cons y r =>
        rw [hs, Lib.join_cons] at h1
        rw [Lib.join_cons]
        simp only [Lib.joinTail, List.map_cons, List.flatten_cons] at h1 ⊢
        rw [List.append_assoc, h1]
        simp
    · rw [ih]
      simp
theorem spl_one (c : UInt8) : ∀ (t q s : List UInt8), (∀ x ∈ t, x ≠ c) → spl c q (t ++ c :: s) = (q ++ t) :: spl c [] s := by
  intro t
  induction t with
  | nil => intro q s _; simp [spl]
  | cons x t ih =>
    intro q s h
    simp only [List.cons_append, spl, if_neg (h x (by simp))]
    rw [ih _ _ (fun y hy => h y (by simp [hy]))]
    simp
theorem spl_end (c : UInt8) : ∀ (t q : List UInt8), (∀ x ∈ t, x ≠ c) → spl c q t = [q ++ t] := by
  intro t
  induction t with
  | nil => intro q _; simp [spl]
  | cons x t ih =>
    intro q h
    simp only [spl, if_neg (h x (by simp))]
    rw [ih _ (fun y hy => h y (by simp [hy]))]
    simp
theorem spl_of_join (c : UInt8) : ∀ (r : List (List UInt8)) (y : List UInt8), (∀ d ∈ y :: r, ∀ x ∈ d, x ≠ c) → spl c [] (Lib.join (y :: r) [c]) = y :: r := by
  intro r
  induction r with
  | nil =>
    intro y h
    rw [Lib.join_one, spl_end c y [] (h y (by simp))]
    rfl
  | cons z r ih =>
    intro y h
    have e : Lib.join (y :: z :: r) [c] = y ++ c :: Lib.join (z :: r) [c] := by
      rw [Lib.join_cons, Lib.join_cons]
      simp [Lib.joinTail]
    rw [e, spl_one c y [] _ (h y (by simp)), ih z (fun d hd => h d (by simp [List.mem_cons.1 hd]))]
    rfl
theorem spec_split (l : List UInt8) (c : UInt8) (hl : l.length ≤ 5000000) : Ev (fun k => spec_l01Split.f k (bA l) (c.toNat : Int)) ((spl c [] l).map bA) := by
  simp only [spec_l01Split.f]
  have ext : ∀ (p q s : List UInt8), l = p ++ q ++ s → (bA l).extract (p.length : Int).toNat ((p.length + q.length : Nat) : Int).toNat = bA q := by
    intro p q s h
    apply ByteArray.ext
    rw [← Array.toList_inj]
    rw [Int.toNat_natCast, Int.toNat_natCast]
    simp [bA, h]
  have H : ∀ (s p q : List UInt8) (out : List ByteArray), l = p ++ q ++ s → out.length ≤ p.length → Ev (fun k => spec_l01Split.l0 k (bA l) (c.toNat : Int) out (p.length : Int) ((p.length + q.length : Nat) : Int)) (out ++ (spl c q s).map bA) := by
    intro s
    induction s with
    | nil =>
      intro p q out h ho
      have hll : l.length = p.length + q.length := by rw [h]; simp
      have w1 : wrap64 (((p.length + q.length : Nat) : Int) + 1) = ((p.length + q.length : Nat) : Int) + 1 := w64 (by omega) (by omega)
      refine Ev.step (fun k => by rw [spec_l01Split.l0]) ?_
      simp only [bA_size, if_pos (show ((p.length + q.length : Nat) : Int) ≤ (l.length : Int) by omega), if_pos (show ((p.length + q.length : Nat) : Int) = (l.length : Int) by omega), if_pos (nat_nn p.length), if_pos (show (p.length : Int) ≤ ((p.length + q.length : Nat) : Int) by omega), if_pos (show out.length < 8796093022208 by omega), ext p q [] h, w1]
      refine Ev.step (fun k => by rw [spec_l01Split.l0]) ?_
      simp only [bA_size, if_neg (show ¬ ((p.length + q.length : Nat) : Int) + 1 ≤ (l.length : Int) by omega)]
      exact Ev.now _
    | cons x s ih =>
      intro p q out h ho
      have hll : l.length = p.length + q.length + s.length + 1 := by rw [h]; simp; omega
      have hx : bt (bA l) ((p.length + q.length : Nat) : Int) = (x.toNat : Int) := by
        have := bt_mid h
        rwa [List.length_append] at this
      have w1 : wrap64 (((p.length + q.length : Nat) : Int) + 1) = ((p.length + (q.length + 1) : Nat) : Int) := by rw [w64 (by omega) (by omega)]; omega
      by_cases hc : x = c
      · have i1 := ih (p ++ q ++ [x]) [] (out ++ [bA q]) (by rw [h]; simp) (by simp; omega)
        have e1 : (((p ++ q ++ [x]).length : Nat) : Int) = ((p.length + (q.length + 1) : Nat) : Int) := by simp <;> omega
        have e2 : (((p ++ q ++ [x]).length + ([] : List UInt8).length : Nat) : Int) = ((p.length + (q.length + 1) : Nat) : Int) := by simp <;> omega
        rw [e1, e2] at i1
        refine Ev.step (fun k => by rw [spec_l01Split.l0]) ?_
        simp only [bA_size, if_pos (show ((p.length + q.length : Nat) : Int) ≤ (l.length : Int) by omega), if_neg (show ¬ ((p.length + q.length : Nat) : Int) = (l.length : Int) by omega), if_pos (nat_nn (p.length + q.length)), if_pos (show ((p.length + q.length : Nat) : Int) < (l.length : Int) by omega), hx, if_pos (show (x.toNat : Int) = (c.toNat : Int) by rw [hc]), if_pos (nat_nn p.length), if_pos (show (p.length : Int) ≤ ((p.length + q.length : Nat) : Int) by omega), if_pos (show out.length < 8796093022208 by omega), ext p q (x :: s) h, w1]
        simp only [spl, if_pos hc, List.map_cons]
        rw [List.append_assoc] at i1
        exact i1
      · have i1 := ih p (q ++ [x]) out (by rw [h]; simp) ho
        have e2 : ((p.length + (q ++ [x]).length : Nat) : Int) = ((p.length + (q.length + 1) : Nat) : Int) := by simp
        rw [e2] at i1
        have hne : ¬ (x.toNat : Int) = (c.toNat : Int) := fun hh => hc (UInt8.toNat_inj.1 (by omega))
        refine Ev.step (fun k => by rw [spec_l01Split.l0]) ?_
        simp only [bA_size, if_pos (show ((p.length + q.length : Nat) : Int) ≤ (l.length : Int) by omega), if_neg (show ¬ ((p.length + q.length : Nat) : Int) = (l.length : Int) by omega), if_pos (nat_nn (p.length + q.length)), if_pos (show ((p.length + q.length : Nat) : Int) < (l.length : Int) by omega), hx, if_neg hne, w1]
        simp only [spl, if_neg hc]
        exact i1
  exact H l [] [] [] rfl (Nat.le_refl _)
/-! #### The program's own reading -/
theorem parse_dec {M : Nat} (hM : 1000000000000000000 ≤ M) : ∀ (l : List UInt8) (acc : Nat), (∀ c ∈ l, isD c) → valF acc l < 1000000000000000000 → Lib.parseUintM M acc l = .ok (valF acc l) := by
  intro l
  induction l with
  | nil => intro acc _ _; rfl
  | cons c l ih =>
    intro acc h hv
    have h1 : 48 ≤ c.toNat ∧ c.toNat ≤ 57 := h c (by simp)
    have h2 := val_le l (10 * acc + (c.toNat - 48))
    have hv' : valF (10 * acc + (c.toNat - 48)) l < 1000000000000000000 := hv
    rw [Lib.parseUintM, if_pos h1, if_neg (by omega), if_neg (by omega), Nat.mul_comm acc 10, ih _ (fun x hx => h x (by simp [hx])) hv']
    rfl
theorem parse_int {u : Nat} (h : u < 10000000000) : Lib.parseIntB 64 (Lib.decDigits u) = .ok (u : Int) := by
  have hd : ∀ c ∈ Lib.decDigits u, isD c := fun c hc => dec_isD' hc
  have e64 : (2 : Nat) ^ 64 - 1 = 18446744073709551615 := by decide
  have hu : Lib.parseUintB 64 (Lib.decDigits u) = .ok u := by
    have := parse_dec (M := 18446744073709551615) (by decide) (Lib.decDigits u) 0 hd (by rw [dec_val']; omega)
    rw [Lib.parseUintB, if_neg (dec_ne u), e64, this, dec_val']
  cases hl : Lib.decDigits u with
  | nil => exact absurd hl (dec_ne u)
  | cons c r =>
    rw [hl] at hu hd
    have hc := hd c (by simp)
    unfold isD at hc
    rw [Lib.parseIntB_plain 64 c r (by omega) (by omega), hu]
    have e63 : (2 : Nat) ^ (64 - 1) = 9223372036854775808 := by decide
    simp only [Lib.signlessC, e63, if_neg (show ¬ 9223372036854775808 ≤ u by omega)]
theorem impl_read (l : List UInt8) (hl : l.length ≤ 5000000) : ∃ r : Int × Bool, impl_readDecimal.f (bA l) = some r ∧ (r.2 = true → 0 ≤ r.1) ∧ (∀ u : Nat, l = Lib.decDigits u → l.length ≤ 10 → r = ((u : Int), true)) ∧ (r.2 = true → ∃ u : Nat, r.1 = (u : Int) ∧ l = Lib.decDigits u ∧ l.length ≤ 10) := by
  have big : ∀ v : Int, 0 ≤ v → Lib.parseIntB 64 l = .ok v → v ≤ 9223372036854775807 := by
    intro v h0 h
    cases l with
    | nil => simp [Lib.parseIntB] at h
    | cons c r =>
      have e63 : (2 : Nat) ^ (64 - 1) = 9223372036854775808 := by decide
      have hs : ∀ e, Lib.signlessC 9223372036854775808 e = .ok v → v ≤ 9223372036854775807 := by
        intro e he
        cases e with
        | ok u =>
          simp only [Lib.signlessC] at he
          split at he
          · cases he
          · cases he; omega
        | «syntax» => cases he
        | range => cases he
      have hm : ∀ e, Lib.signedC 9223372036854775808 e = .ok v → v ≤ 9223372036854775807 := by
        intro e he
        cases e with
        | ok u =>
          simp only [Lib.signedC] at he
          split at he
          · cases he
          · cases he; omega
        | «syntax» => cases he
        | range => cases he
      by_cases h43 : c.toNat = 43
      · have : c = 43 := UInt8.toNat_inj.1 (by rw [h43]; rfl)
        subst this
        rw [Lib.parseIntB_plus, e63] at h
        exact hs _ h
      · by_cases h45 : c.toNat = 45
        · have : c = 45 := UInt8.toNat_inj.1 (by rw [h45]; rfl)
          subst this
          rw [Lib.parseIntB_minus, e63] at h
          exact hm _ h
        · rw [Lib.parseIntB_plain 64 c r h43 h45, e63] at h
          exact hs _ h
  simp only [impl_readDecimal.f, bA_size, bA_list, if_pos (show l.length ≤ 281474976710656 by omega)]
  have none : (∀ v : Int, Lib.parseIntB 64 l ≠ .ok v) → (∀ u : Nat, l = Lib.decDigits u → l.length ≤ 10 → ((0 : Int), false) = ((u : Int), true)) := by
    intro h u hu hlen
    have := parse_int (u := u) (dec_lt (by rw [← hu]; exact hlen))
    rw [← hu] at this
    exact absurd this (h _)
  cases hp : Lib.parseIntB 64 l with
  | «syntax» => exact ⟨(0, false), rfl, fun h => by simp at h, none (by intro v; rw [hp]; simp), fun h => by simp at h⟩
  | range => exact ⟨(0, false), rfl, fun h => by simp at h, none (by intro v; rw [hp]; simp), fun h => by simp at h⟩
  | ok v =>
    have uniq : ∀ u : Nat, l = Lib.decDigits u → l.length ≤ 10 → v = (u : Int) := by
      intro u hu hlen
      have := parse_int (u := u) (dec_lt (by rw [← hu]; exact hlen))
      rw [← hu, hp] at this
      cases this
      rfl
    by_cases c1 : (l.length : Int) > 10
    · exact ⟨(0, false), by simp only [if_pos c1], fun h => by simp at h, fun u _ h => by omega, fun h => by simp at h⟩
    by_cases c2 : v < 0
    · exact ⟨(0, false), by simp only [if_neg c1, if_pos c2], fun h => by simp at h, fun u hu h => by have := uniq u hu h; omega, fun h => by simp at h⟩
    have hb := big v (by omega) hp
    have hd : impl_decimal.f v = some (bA (Lib.decDigits v.toNat)) := by
      have e : Lib.itoa v = Lib.decDigits v.toNat := by unfold Lib.itoa; rw [if_neg c2]
      simp only [impl_decimal.f, strconv_FormatInt_51.f, if_true, if_pos (show (-9223372036854775808 : Int) ≤ v by omega), if_pos hb, e, Option.bind_some]
      rfl
    by_cases c3 : Lib.decDigits v.toNat = l
    · refine ⟨(v, true), by simp only [if_neg c1, if_neg c2, hd, Option.bind_some, toList_bA, if_pos c3], fun _ => by simp only; omega, fun u hu h => by rw [uniq u hu h], fun _ => ⟨v.toNat, by simp only; omega, c3.symm, by omega⟩⟩
    · refine ⟨(0, false), by simp only [if_neg c1, if_neg c2, hd, Option.bind_some, toList_bA, if_neg c3], fun h => by simp at h, fun u hu h => ?_, fun h => by simp at h⟩
      have := uniq u hu h
      subst this
      exact absurd (by rw [Int.toNat_natCast, hu]) c3
def inR (a lo hi : Int) : Bool := decide (lo ≤ a) && decide (a ≤ hi)
theorem inR_iff {a lo hi : Int} : inR a lo hi = true ↔ lo ≤ a ∧ a ≤ hi := by simp [inR]
theorem l01In (a lo hi : Int) : spec_l01In.f a lo hi = some (inR a lo hi) := by
  unfold spec_l01In.f inR
  split
  · rename_i h; rw [decide_eq_true (show lo ≤ a from h), Bool.true_and]
  · rename_i h; rw [decide_eq_false (show ¬ lo ≤ a from h), Bool.false_and]
theorem inRange (a lo hi : Int) : impl_inRange.f a lo hi = some (inR a lo hi) := by
  unfold impl_inRange.f inR
  split
  · rename_i h; rw [decide_eq_true (show lo ≤ a from h), Bool.true_and]
  · rename_i h; rw [decide_eq_false (show ¬ lo ≤ a from h), Bool.false_and]
def paperB (a b : Int) : Bool := inR a 30 500 && inR b 50 300
theorem spec_IsPaper (a b : Int) : spec_IsPaper.f a b = some (paperB a b) := by
  simp only [spec_IsPaper.f, l01In, Option.bind_some, paperB]
  cases inR a 30 500 <;> cases inR b 50 300 <;> rfl
theorem impl_IsPaper (a b : Int) : impl_IsPaper.f a b = some (paperB a b) := by
  simp only [impl_IsPaper.f, inRange, Option.bind_some, paperB]
  cases inR a 30 500 <;> cases inR b 50 300 <;> rfl
def paperL (a b : Int) : List UInt8 := Lib.decDigits a.toNat ++ [47] ++ Lib.decDigits b.toNat
theorem paper_range {a b : Int} (h : paperB a b = true) : (0 ≤ a ∧ a ≤ 1000) ∧ (0 ≤ b ∧ b ≤ 1000) := by
  simp only [paperB, Bool.and_eq_true, inR_iff] at h
  omega
theorem impl_PaperText (a b : Int) : impl_PaperText.f a b = some (if paperB a b = true then bA (paperL a b) else bA []) := by
  simp only [impl_PaperText.f, impl_IsPaper, Option.bind_some]
  cases h : paperB a b
  · simp only [Bool.false_eq_true, if_false]
    rfl
  · obtain ⟨h0, h1⟩ := paper_range h
    have d0 := dec_len a.toNat a.toNat (Nat.le_refl _)
    have d1 := dec_len b.toNat b.toNat (Nat.le_refl _)
    have m0 := impl_dec a.toNat (by omega)
    have m1 := impl_dec b.toNat (by omega)
    rw [show ((a.toNat : Nat) : Int) = a by omega] at m0
    rw [show ((b.toNat : Nat) : Int) = b by omega] at m1
    have c : (⟨#[47]⟩ : ByteArray) = bA [47] := rfl
    simp only [if_true, m0, m1, Option.bind_some, c, bA_size, bA_app, List.length_append, List.length_singleton, if_pos (show (Lib.decDigits a.toNat).length + 1 ≤ 9223372036854775807 by omega), if_pos (show (Lib.decDigits a.toNat).length + 1 + (Lib.decDigits b.toNat).length ≤ 9223372036854775807 by omega)]
    rfl
theorem cut_at (c : UInt8) : ∀ (p s : List UInt8), (∀ x ∈ p, x ≠ c) → Lib.index (p ++ c :: s) [c] = (p.length : Int) := by
  intro p
  induction p with
  | nil => intro s _; simp [Lib.index]
  | cons x p ih =>
    intro s h
    have hx : ([c].isPrefixOf (x :: (p ++ c :: s))) = false := by
      simp [List.isPrefixOf]
      exact fun e => h x (by simp) e.symm
    have i1 := ih s (fun y hy => h y (by simp [hy]))
    rw [List.cons_append, Lib.index, hx, i1]
    have : ((p.length : Int) == -1) = false := by rw [beq_eq_false_iff_ne]; omega
    simp [this]
theorem paper_cut (a b : Int) : Lib.cut (paperL a b) [47] = (Lib.decDigits a.toNat, Lib.decDigits b.toNat, true) := by
  have hi : Lib.index (paperL a b) [47] = ((Lib.decDigits a.toNat).length : Int) := by
    have := cut_at 47 (Lib.decDigits a.toNat) (Lib.decDigits b.toNat) (fun x hx e => by
      have h := dec_isD' hx
      rw [e] at h
      exact absurd h.1 (by decide))
    simpa [paperL] using this
  unfold Lib.cut
  rw [hi, if_pos (by omega), Int.toNat_natCast]
  simp [paperL]
theorem cut_le (l : List UInt8) (c : List UInt8) : (Lib.cut l c).1.length ≤ l.length ∧ (Lib.cut l c).2.1.length ≤ l.length := by
  unfold Lib.cut
  split
  · simp; omega
  · simp
theorem dec_short {u : Nat} (h : u ≤ 1000) : (Lib.decDigits u).length ≤ 10 := by
  rw [Lib.decDigits_length]
  by_cases h1 : u < 10
  · rw [Lib.nDigits_small h1]; decide
  · rw [Lib.nDigits_big h1]
    by_cases h2 : u / 10 < 10
    · rw [Lib.nDigits_small h2]; decide
    · rw [Lib.nDigits_big h2]
      by_cases h3 : u / 10 / 10 < 10
      · rw [Lib.nDigits_small h3]; decide
      · rw [Lib.nDigits_big h3, Lib.nDigits_small (by omega)]; decide
theorem spec_read_paper (l : List UInt8) (hl : l.length ≤ 2000000) : ∃ r : Int × Int × Bool, Ev (fun k => spec_ReadPaper.f k (bA l)) r ∧ ((r = (0, 0, false)) ∨ (∃ a b, paperB a b = true ∧ l = paperL a b ∧ r = (a, b, true))) ∧ (∀ a b, paperB a b = true → l = paperL a b → r = (a, b, true)) := by
  simp only [spec_ReadPaper.f]
  have h1 := spec_split l 47 (by omega)
  have hsl := spl_length 47 l []
  obtain ⟨r, hr, n1, n2⟩ := spec_numbers (spl 47 [] l) (by omega)
  have hj := spl_join 47 l []
  rw [List.nil_append] at hj
  have conv : ∀ a b, paperB a b = true → l = paperL a b → r = ([a, b], true) := by
    intro a b hab e
    obtain ⟨ha, hb⟩ := paper_range hab
    have es : spl 47 [] l = [Lib.decDigits a.toNat, Lib.decDigits b.toNat] := by
      have := spl_of_join 47 [Lib.decDigits b.toNat] (Lib.decDigits a.toNat) (fun d hd x hx e => by
        have h : isD x := by
          rcases List.mem_cons.1 hd with rfl | hd
          · exact dec_isD' hx
          · rw [List.mem_singleton.1 hd] at hx; exact dec_isD' hx
        rw [e] at h
        exact absurd h.1 (by decide))
      rw [← this, e]
      congr 1
      rw [Lib.join_cons]
      simp [Lib.joinTail, paperL]
    have := n2 [a.toNat, b.toNat] (by rw [es]; rfl) (fun d hd => by
      rw [es] at hd
      rcases List.mem_cons.1 hd with rfl | hd
      · exact dec_short (by omega)
      · rw [List.mem_singleton.1 hd]; exact dec_short (by omega))
    rw [this]
    simp only [List.map_cons, List.map_nil, show ((a.toNat : Nat) : Int) = a by omega, show ((b.toNat : Nat) : Int) = b by omega]
  have bad : (∀ a b, paperB a b = true → ¬ l = paperL a b) → (∀ a b, paperB a b = true → l = paperL a b → ((0 : Int), (0 : Int), false) = (a, b, true)) := fun h a b hab e => absurd e (h a b hab)
  by_cases c1 : r.2 = true
  · by_cases c2 : (r.1.length : Int) = 2
    · have hns := n1 c1
      obtain ⟨x, y, hxy⟩ : ∃ x y, r.1 = [x, y] := by
        cases h : r.1 with
        | nil => rw [h] at c2; simp at c2
        | cons x t =>
          cases h2 : t with
          | nil => rw [h, h2] at c2; simp at c2
          | cons y t2 =>
            cases h3 : t2 with
            | nil => exact ⟨x, y, rfl⟩
            | cons z t3 => rw [h, h2, h3] at c2; simp at c2; omega
      have r0 : rd [x, y] 0 = x := rfl
      have r1 : rd [x, y] 1 = y := rfl
      cases hab : paperB x y
      · refine ⟨(0, 0, false), Ev.bind h1 (Ev.bind hr ?_), .inl rfl, bad (fun a b h e => ?_)⟩
        · simp only [if_pos c1, if_pos c2, hxy, r0, r1, if_pos (show (0 : Int) < (([x, y] : List Int).length : Int) by simp), if_pos (show (1 : Int) < (([x, y] : List Int).length : Int) by simp), if_pos (show (([x, y] : List Int).length : Int) = 2 by simp), spec_IsPaper, hab, Option.bind_some, Bool.false_eq_true, if_false]
          exact Ev.now _
        · have := conv a b h e
          rw [this] at hxy
          simp only [List.cons.injEq, and_true] at hxy
          rw [hxy.1, hxy.2, hab] at h
          simp at h
      · refine ⟨(x, y, true), Ev.bind h1 (Ev.bind hr ?_), .inr ⟨x, y, hab, ?_, rfl⟩, fun a b h e => ?_⟩
        · simp only [if_pos c1, if_pos c2, hxy, r0, r1, if_pos (show (0 : Int) < (([x, y] : List Int).length : Int) by simp), if_pos (show (1 : Int) < (([x, y] : List Int).length : Int) by simp), if_pos (show (([x, y] : List Int).length : Int) = 2 by simp), spec_IsPaper, hab, Option.bind_some, if_true]
          exact Ev.now _
        · obtain ⟨hx, hy⟩ := paper_range hab
          rw [hxy] at hns
          cases hs : spl 47 [] l with
          | nil => exact absurd hs (spl_ne _ _ _)
          | cons d1 t =>
            rw [hs] at hns hj
            cases ht : t with
            | nil => rw [ht] at hns; exact absurd hns.2 (by simp [Nums])
            | cons d2 t2 =>
              rw [ht] at hns hj
              cases ht2 : t2 with
              | cons d3 t3 => rw [ht2] at hns; exact absurd hns.2.2 (by simp [Nums])
              | nil =>
                rw [ht2] at hns hj
                obtain ⟨u, e1, e2, _⟩ := hns.1 hx.1
                obtain ⟨v, e3, e4, _⟩ := hns.2.1 hy.1
                rw [← hj, Lib.join_cons, e2, e4, e1, e3]
                simp [Lib.joinTail, paperL]
        · have := conv a b h e
          rw [this] at hxy
          simp only [List.cons.injEq, and_true] at hxy
          rw [hxy.1, hxy.2]
    · refine ⟨(0, 0, false), Ev.bind h1 (Ev.bind hr ?_), .inl rfl, bad (fun a b h e => ?_)⟩
      · simp only [if_pos c1, if_neg c2]
        exact Ev.now _
      · rw [conv a b h e] at c2
        exact c2 rfl
  · refine ⟨(0, 0, false), Ev.bind h1 (Ev.bind hr ?_), .inl rfl, bad (fun a b h e => ?_)⟩
    · simp only [if_neg c1]
      exact Ev.now _
    · rw [conv a b h e] at c1
      exact c1 rfl
theorem impl_read_paper (l : List UInt8) (hl : l.length ≤ 2000000) : ∃ r : Int × Int × Bool, impl_ReadPaper.f (bA l) = some r ∧ ((r = (0, 0, false)) ∨ (∃ a b, paperB a b = true ∧ l = paperL a b ∧ r = (a, b, true))) ∧ (∀ a b, paperB a b = true → l = paperL a b → r = (a, b, true)) := by
  have hc : strings_Cut.f (bA l) (⟨#[47]⟩ : ByteArray) = some (bA (Lib.cut l [47]).1, bA (Lib.cut l [47]).2.1, (Lib.cut l [47]).2.2) := by
    simp only [strings_Cut.f, bA_size, if_pos (show l.length < 4294967281 by omega), bA_list]
    rfl
  obtain ⟨l1, l2⟩ := cut_le l [47]
  obtain ⟨x, hx, x1, x2, x3⟩ := impl_read (Lib.cut l [47]).1 (by omega)
  obtain ⟨y, hy, y1, y2, y3⟩ := impl_read (Lib.cut l [47]).2.1 (by omega)
  have conv : ∀ a b, paperB a b = true → l = paperL a b → x = (a, true) ∧ y = (b, true) := by
    intro a b hab e
    obtain ⟨ha, hb⟩ := paper_range hab
    have hcut := paper_cut a b
    rw [← e] at hcut
    have ex := x2 a.toNat (by rw [hcut]) (by rw [hcut]; exact dec_short (by omega))
    have ey := y2 b.toNat (by rw [hcut]) (by rw [hcut]; exact dec_short (by omega))
    rw [show ((a.toNat : Nat) : Int) = a by omega] at ex
    rw [show ((b.toNat : Nat) : Int) = b by omega] at ey
    exact ⟨ex, ey⟩
  have bad : (∀ a b, paperB a b = true → ¬ l = paperL a b) → (∀ a b, paperB a b = true → l = paperL a b → ((0 : Int), (0 : Int), false) = (a, b, true)) := fun h a b hab e => absurd e (h a b hab)
  simp only [impl_ReadPaper.f, hc, Option.bind_some, hx, hy]
  by_cases c1 : x.2 = true
  · by_cases c2 : y.2 = true
    · cases hab : paperB x.1 y.1
      · refine ⟨(0, 0, false), by simp only [if_pos c1, if_pos c2, impl_IsPaper, hab, Option.bind_some, Bool.false_eq_true, if_false], .inl rfl, bad (fun a b h e => ?_)⟩
        obtain ⟨ex, ey⟩ := conv a b h e
        rw [ex, ey, h] at hab
        simp at hab
      · have ht := impl_PaperText x.1 y.1
        rw [if_pos hab] at ht
        by_cases c3 : paperL x.1 y.1 = l
        · refine ⟨(x.1, y.1, true), by simp only [if_pos c1, if_pos c2, impl_IsPaper, hab, Option.bind_some, if_true, ht, toList_bA, if_pos c3], .inr ⟨x.1, y.1, hab, c3.symm, rfl⟩, fun a b h e => ?_⟩
          obtain ⟨ex, ey⟩ := conv a b h e
          rw [ex, ey]
        · refine ⟨(0, 0, false), by simp only [if_pos c1, if_pos c2, impl_IsPaper, hab, Option.bind_some, if_true, ht, toList_bA, if_neg c3], .inl rfl, bad (fun a b h e => ?_)⟩
          obtain ⟨ex, ey⟩ := conv a b h e
          rw [ex, ey] at c3
          exact c3 e.symm
    · refine ⟨(0, 0, false), by simp only [if_pos c1, if_neg c2], .inl rfl, bad (fun a b h e => ?_)⟩
      rw [(conv a b h e).2] at c2
      exact c2 rfl
  · refine ⟨(0, 0, false), by simp only [if_neg c1], .inl rfl, bad (fun a b h e => ?_)⟩
    rw [(conv a b h e).1] at c1
    exact c1 rfl
theorem both_ReadPaper (l : List UInt8) (hl : l.length ≤ 2000000) : ∃ r : Int × Int × Bool, Ev (fun k => spec_ReadPaper.f k (bA l)) r ∧ impl_ReadPaper.f (bA l) = some r ∧ ((r = (0, 0, false)) ∨ (∃ a b, paperB a b = true ∧ l = paperL a b ∧ r = (a, b, true))) ∧ (∀ a b, paperB a b = true → l = paperL a b → r = (a, b, true)) := by
  obtain ⟨r, hr, r1, r2⟩ := spec_read_paper l hl
  obtain ⟨q, hq, q1, q2⟩ := impl_read_paper l hl
  have : q = r := by
    rcases q1 with e | ⟨a, b, h, e, e2⟩
    · rcases r1 with f | ⟨a, b, h, f, f2⟩
      · rw [e, f]
      · rw [q2 a b h f, f2]
    · rw [e2, r2 a b h e]
  subst this
  exact ⟨q, hr, hq, r1, r2⟩
theorem FnExactReadPaper : laws_FnExactReadPaper.Pure := by
  intro s _
  refine Ev.rounds (g := fun k => laws_FnExactReadPaper.f k s) ?_
  rw [bA_of s]
  generalize s.data.toList = l
  simp only [laws_FnExactReadPaper.f, bA_size]
  by_cases h : (l.length : Int) > 1048576
  · simp only [if_pos h]
    exact Ev.now _
  simp only [if_neg h]
  obtain ⟨r, h1, h2, _⟩ := both_ReadPaper l (by omega)
  refine Ev.bind h1 ?_
  simp only [h2, Option.bind_some, laws_eqPaper.f, if_true, bne_self_eq_false, Bool.false_eq_true, if_false]
  exact Ev.now _

end Go.Proofs.YtoloijfhmddibaaDoor.Pure
