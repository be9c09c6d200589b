/- The pure statement of law FnRoutes: what the printed functions compute answers true at every input. No condition. -/
import Derived.Test.YtcieonfpmchdkaaGreatDoorPFnRoutesx13
import Derived.Lib.Join
set_option linter.unusedVariables false
set_option linter.unusedSimpArgs false
namespace Go.Proofs.YtcieonfpmchdkaaGreatDoor.Pure
open Go.RowKit Go.Proofs.YtcieonfpmchdkaaGreatDoor.PFnRoutes Go.Proofs.YtcieonfpmchdkaaGreatDoorW.PrintWords Go.Proofs.YtcieonfpmchdkaaGreatDoorW.PrintLast Go.Proofs.YtcieonfpmchdkaaGreatDoorW.PrintMore


/-! #### Numbers and rounds -/
theorem w64 {x : Int} (h1 : -9223372036854775808 ≤ x) (h2 : x ≤ 9223372036854775807) : wrap64 x = x := by
  unfold wrap64
  omega
theorem wf64 {x : Int} (h : (Lit.int .i64 x).wf = true) : -9223372036854775808 ≤ x ∧ x ≤ 9223372036854775807 := by
  simp only [Lit.wf, IntKind.min, IntKind.max, IntKind.signed, IntKind.bits, Bool.and_eq_true, decide_eq_true_eq, if_true] at h
  omega
theorem ev_of {α : Type} {g : Nat → Option α} {r : α} (h : ∀ k, g k = some r) : Ev g r := ⟨0, fun k _ => h k⟩
theorem ev_eq {α : Type} {g : Nat → Option α} {r r' : α} (h : Ev g r) (e : r = r') : Ev g r' := e ▸ h
/-- A loop over a list: what lies behind, what lies ahead. -/
theorem loop_list {α : Type} (l : List α) (Q : List α → List α → Prop) (h0 : Q l []) (hs : ∀ p x s, l = p ++ x :: s → Q (p ++ [x]) s → Q p (x :: s)) : Q [] l := by
  have h : ∀ s p, l = p ++ s → Q p s := by
    intro s
    induction s with
    | nil => intro p hp; rw [List.append_nil] at hp; rw [← hp]; exact h0
    | cons x s ih => intro p hp; exact hs p x s hp (ih (p ++ [x]) (by simp [hp]))
  exact h l [] rfl
theorem mid_lt {α : Type} {l p s : List α} {x : α} (h : l = p ++ x :: s) : (p.length : Int) < (l.length : Int) := by
  rw [h, List.length_append, List.length_cons]; omega
theorem mid_next {α : Type} {l p s : List α} {x : α} (h : l = p ++ x :: s) (hl : l.length ≤ 9223372036854775807) : wrap64 ((p.length : Int) + 1) = ((p ++ [x]).length : Int) := by
  have := mid_lt h
  rw [w64 (by omega) (by omega), List.length_append]; simp
theorem mid_get {α : Type} {l p s : List α} {x : α} (h : l = p ++ x :: s) (z : α) : l.getD (p.length : Int).toNat z = x := by
  rw [h]; simp
theorem get_mid {α : Type} (p s : List α) (x z : α) : (p ++ x :: s).getD (p.length : Int).toNat z = x := by simp
theorem nat_nn (n : Nat) : (0 : Int) ≤ (n : Int) := by omega
theorem nlt_self {α : Type} (l : List α) : ¬ ((l.length : Int) < (l.length : Int)) := by omega
theorem set_mid {α : Type} (p s : List α) (x y : α) : (p ++ x :: s).set ((p.length : Int).toNat) y = p ++ y :: s := by
  rw [Int.toNat_natCast, List.set_append_right _ _ (Nat.le_refl _)]; simp
theorem nil_or_snoc {α : Type} (p : List α) : p = [] ∨ ∃ q y, p = q ++ [y] := by
  rcases List.eq_nil_or_concat p with h | ⟨q, y, h⟩
  · exact .inl h
  · exact .inr ⟨q, y, by rw [h, List.concat_eq_append]⟩
theorem loop_all {α : Type} (l : List α) (Q : List α → List α → Prop) (h0 : Q l []) (hs : ∀ p x s, l = p ++ x :: s → Q (p ++ [x]) s → Q p (x :: s)) : ∀ s p, l = p ++ s → Q p s := by
  intro s
  induction s with
  | nil => intro p hp; rw [List.append_nil] at hp; rw [← hp]; exact h0
  | cons x s ih => intro p hp; exact hs p x s hp (ih (p ++ [x]) (by simp [hp]))
/-- Bytes as a string. -/
def bA (l : List UInt8) : ByteArray := ⟨l.toArray⟩
theorem bA_size (l : List UInt8) : (bA l).size = l.length := by simp [bA, ByteArray.size]
theorem bA_app (a b : List UInt8) : bA a ++ bA b = bA (a ++ b) := by
  apply ByteArray.ext
  simp [bA]
theorem bA_list (l : List UInt8) : (bA l).data.toList = l := by simp [bA]
theorem bA_dig (u : Nat) (h : u < 10) : strOfNums ([(wrap64 (48 + (u : Int))) % 256] : List Int) = bA [UInt8.ofNat (48 + u)] := by
  rw [w64 (by omega) (by omega)]
  have e : ((48 + (u : Int)) % 256).toNat = 48 + u := by omega
  simp only [strOfNums, bA, List.map_cons, List.map_nil, e]
theorem dec_len : ∀ (n u : Nat), u ≤ n → (Lib.decDigits u).length ≤ u + 1 := by
  intro n
  induction n with
  | zero => intro u h; rw [show u = 0 by omega, Lib.decDigits, dif_pos (by decide)]; simp
  | succ n ih =>
    intro u h
    rw [Lib.decDigits]
    by_cases h1 : u < 10
    · rw [dif_pos h1]; simp
    · rw [dif_neg h1]
      have := ih (u / 10) (by omega)
      simp only [List.length_append, List.length_singleton]
      omega
theorem spec_dec : ∀ (n u : Nat), u ≤ n → u ≤ 1000000000000000000 → Ev (fun k => spec_l01Dec.f k (u : Int)) (bA (Lib.decDigits u)) := by
  intro n
  induction n with
  | zero =>
    intro u h _
    rw [show u = 0 by omega]
    refine Ev.step (fun k => by rw [spec_l01Dec.f]) ?_
    simp only [if_pos (show ((0 : Nat) : Int) < 10 by decide)]
    refine ev_eq (Ev.now _) ?_
    rw [bA_dig 0 (by decide), Lib.decDigits, dif_pos (by decide)]
  | succ n ih =>
    intro u h hb
    refine Ev.step (fun k => by rw [spec_l01Dec.f]) ?_
    by_cases h1 : u < 10
    · simp only [if_pos (show (u : Int) < 10 by omega)]
      refine ev_eq (Ev.now _) ?_
      rw [bA_dig u h1, Lib.decDigits, dif_pos h1]
    · have e1 : wrap64 (Int.tdiv (u : Int) 10) = ((u / 10 : Nat) : Int) := by
        rw [show Int.tdiv (u : Int) 10 = ((u / 10 : Nat) : Int) from (Int.ofNat_tdiv u 10).symm]
        exact w64 (by omega) (by omega)
      have e2 : Int.tmod (u : Int) 10 = ((u % 10 : Nat) : Int) := (Int.ofNat_tmod u 10).symm
      have hl := dec_len (u / 10) (u / 10) (Nat.le_refl _)
      simp only [if_neg (show ¬ (u : Int) < 10 by omega), e1, e2, Option.bind_some, bA_dig (u % 10) (by omega)]
      refine Ev.bind (ih (u / 10) (by omega) (by omega)) ?_
      simp only [bA_size, List.length_singleton, if_pos (show (Lib.decDigits (u / 10)).length + 1 ≤ 9223372036854775807 by omega)]
      refine ev_eq (Ev.now _) ?_
      rw [bA_app]
      conv => rhs; rw [Lib.decDigits, dif_neg h1]
/-- A number that is none below zero, by what the program calls. -/
theorem impl_dec (u : Nat) (h : u ≤ 1000000000000000000) : impl_decimal.f (u : Int) = some (bA (Lib.decDigits u)) := by
  have e : Lib.itoa (u : Int) = Lib.decDigits u := by
    unfold Lib.itoa
    rw [if_neg (by omega), Int.toNat_natCast]
  simp only [impl_decimal.f, strconv_FormatInt_46.f, if_true, if_pos (show (-9223372036854775808 : Int) ≤ (u : Int) by omega), if_pos (show (u : Int) ≤ 9223372036854775807 by omega), e, Option.bind_some]
  rfl
theorem spec_number (u : Nat) (h : u ≤ 1000000000000000000) : Ev (fun k => spec_l01Number.f k (u : Int)) (bA (Lib.decDigits u)) := by
  simp only [spec_l01Number.f, if_neg (show ¬ (u : Int) < 0 by omega)]
  exact Ev.bind (spec_dec u u (Nat.le_refl _) h) (Ev.now _)
theorem toList_loop (b : ByteArray) : ∀ (d i : Nat) (r : List UInt8), b.size - i ≤ d → ByteArray.toList.loop b i r = r.reverse ++ b.data.toList.drop i := by
  intro d
  induction d with
  | zero =>
    intro i r h
    have hl : b.data.toList.length = b.size := by rw [Array.length_toList]; rfl
    rw [ByteArray.toList.loop, if_neg (by omega), List.drop_eq_nil_of_le (by omega), List.append_nil]
  | succ d ih =>
    intro i r h
    have hl : b.data.toList.length = b.size := by rw [Array.length_toList]; rfl
    by_cases hi : i < b.size
    · rw [ByteArray.toList.loop, if_pos hi, ih (i + 1) _ (by omega), List.drop_eq_getElem_cons (by omega : i < b.data.toList.length)]
      have e : b.get! i = b.data.toList[i]'(by omega) := by
        have : b.get! i = b.data[i]! := rfl
        rw [this, getElem!_pos b.data i (by rw [← Array.length_toList]; omega)]
        simp
      rw [e]
      simp
    · rw [ByteArray.toList.loop, if_neg hi, List.drop_eq_nil_of_le (by omega), List.append_nil]
theorem toList_bA (l : List UInt8) : (bA l).toList = l := by
  have := toList_loop (bA l) (bA l).size 0 [] (by omega)
  rw [ByteArray.toList, this, bA_list]
  rfl
theorem bA_of (b : ByteArray) : b = bA b.data.toList := by cases b; simp [bA]
theorem bt_mid {l p s : List UInt8} {x : UInt8} (h : l = p ++ x :: s) : bt (bA l) (p.length : Int) = (x.toNat : Int) := by
  have hl : p.length < (bA l).size := by rw [bA_size, h]; simp
  rw [← bt_at (bA l) (p.length : Int) (by rw [Int.toNat_natCast]; exact hl)]
  have e : (bA l)[p.length]'hl = x := by
    have : (bA l)[p.length]'hl = l[p.length]'(by rw [bA_size] at hl; exact hl) := by simp [bA]; rfl
    rw [this]
    simp [h]
  simp only [Int.toNat_natCast, e]
/-! #### Digits -/
def isD (c : UInt8) : Prop := 48 ≤ c.toNat ∧ c.toNat ≤ 57
def valF (acc : Nat) (l : List UInt8) : Nat := l.foldl (fun a c => 10 * a + (c.toNat - 48)) acc
theorem dig_toNat {u : Nat} (h : u < 10) : (UInt8.ofNat (48 + u)).toNat = 48 + u := by
  rw [UInt8.toNat_ofNat']
  omega
theorem dec_isD : ∀ (n u : Nat), u ≤ n → ∀ c ∈ Lib.decDigits u, isD c := by
  intro n
  induction n with
  | zero =>
    intro u h c hc
    rw [show u = 0 by omega, Lib.decDigits, dif_pos (by decide)] at hc
    rw [List.mem_singleton.1 hc]
    exact by simp [isD, dig_toNat (show 0 < 10 by decide)]
  | succ n ih =>
    intro u h c hc
    rw [Lib.decDigits] at hc
    by_cases h1 : u < 10
    · rw [dif_pos h1] at hc
      rw [List.mem_singleton.1 hc, isD, dig_toNat h1]
      omega
    · rw [dif_neg h1] at hc
      rcases List.mem_append.1 hc with hc | hc
      · exact ih (u / 10) (by omega) c hc
      · rw [List.mem_singleton.1 hc, isD, dig_toNat (by omega)]
        omega
theorem dec_isD' {u : Nat} {c : UInt8} (h : c ∈ Lib.decDigits u) : isD c := dec_isD u u (Nat.le_refl _) c h
theorem dec_ne (u : Nat) : Lib.decDigits u ≠ [] := by
  rw [Lib.decDigits]
  split <;> simp
theorem dec_val : ∀ (n u : Nat), u ≤ n → valF 0 (Lib.decDigits u) = u := by
  intro n
  induction n with
  | zero =>
    intro u h
    rw [show u = 0 by omega, Lib.decDigits, dif_pos (by decide)]
    simp [valF, dig_toNat (show 0 < 10 by decide)]
  | succ n ih =>
    intro u h
    rw [Lib.decDigits]
    by_cases h1 : u < 10
    · rw [dif_pos h1]
      simp only [valF, List.foldl_cons, List.foldl_nil, dig_toNat h1]
      omega
    · rw [dif_neg h1]
      have e := ih (u / 10) (by omega)
      simp only [valF, List.foldl_append, List.foldl_cons, List.foldl_nil] at e ⊢
      rw [e, dig_toNat (by omega)]
      omega
theorem dec_val' (u : Nat) : valF 0 (Lib.decDigits u) = u := dec_val u u (Nat.le_refl _)
theorem val_le : ∀ (l : List UInt8) (acc : Nat), acc ≤ valF acc l := by
  intro l
  induction l with
  | nil => intro acc; exact Nat.le_refl _
  | cons c l ih => intro acc; exact Nat.le_trans (by omega) (ih (10 * acc + (c.toNat - 48)))
theorem val_lt : ∀ (l : List UInt8) (acc : Nat), (∀ c ∈ l, isD c) → valF acc l < (acc + 1) * 10 ^ l.length := by
  intro l
  induction l with
  | nil => intro acc _; simp [valF]
  | cons c l ih =>
    intro acc h
    have h1 := h c (by simp)
    have h2 := ih (10 * acc + (c.toNat - 48)) (fun x hx => h x (by simp [hx]))
    have h3 : 10 * acc + (c.toNat - 48) + 1 ≤ 10 * (acc + 1) := by unfold isD at h1; omega
    have h4 := Nat.mul_le_mul_right (10 ^ l.length) h3
    have e : (acc + 1) * 10 ^ (c :: l).length = 10 * (acc + 1) * 10 ^ l.length := by
      rw [List.length_cons, Nat.pow_succ, Nat.mul_comm (10 ^ l.length) 10, ← Nat.mul_assoc, Nat.mul_comm (acc + 1) 10]
    rw [e]
    exact Nat.lt_of_lt_of_le h2 h4
theorem dec_lt {u : Nat} (h : (Lib.decDigits u).length ≤ 10) : u < 10000000000 := by
  have h1 := val_lt (Lib.decDigits u) 0 (fun c hc => dec_isD' hc)
  rw [dec_val'] at h1
  have h2 : (10 : Nat) ^ (Lib.decDigits u).length ≤ 10 ^ 10 := Nat.pow_le_pow_right (by decide) h
  have h3 : (10 : Nat) ^ 10 = 10000000000 := by decide
  omega
/-- What a reading of a number must answer. -/
def NumAt (l : List UInt8) (r : Int × Bool) : Prop := (r.2 = true → 0 ≤ r.1 → ∃ u : Nat, r.1 = (u : Int) ∧ l = Lib.decDigits u ∧ l.length ≤ 10) ∧ (∀ u : Nat, l = Lib.decDigits u → l.length ≤ 10 → r = ((u : Int), true))
theorem spec_digits (l : List UInt8) : ∃ r : Int × Bool, Ev (fun k => spec_l01Digits.f k (bA l)) r ∧ (r.2 = true → ∃ u : Nat, r.1 = (u : Int) ∧ l = Lib.decDigits u ∧ l.length ≤ 10) ∧ (∀ u : Nat, l = Lib.decDigits u → l.length ≤ 10 → r = ((u : Int), true)) := by
  simp only [spec_l01Digits.f, bA_size]
  have bad : Ev (fun k => spec_l01Digits.j0 k (bA l) true) ((0 : Int), false) := Ev.step (fun k => by rw [spec_l01Digits.j0, if_pos rfl]) (Ev.now _)
  by_cases h1 : (l.length : Int) < 1
  · refine ⟨(0, false), by simp only [if_pos h1]; exact bad, fun h => by simp at h, fun u hu _ => ?_⟩
    exact absurd (List.length_eq_zero_iff.1 (by omega : l.length = 0)) (hu ▸ dec_ne u)
  simp only [if_neg h1]
  by_cases h2 : (l.length : Int) > 10
  · refine ⟨(0, false), by simp only [decide_eq_true h2]; exact bad, fun h => by simp at h, fun u hu h => by omega⟩
  have hl : l.length ≤ 10 := by omega
  simp only [decide_eq_false h2]
  have H := loop_list l (fun p s => ∀ acc : Nat, acc < 10 ^ p.length → acc = valF 0 p → ∃ r : Int × Bool, Ev (fun k => spec_l01Digits.l0 k (bA l) (acc : Int) (p.length : Int)) r ∧ (r.2 = true → ∃ u : Nat, r.1 = (u : Int) ∧ l = Lib.decDigits u ∧ l.length ≤ 10) ∧ (∀ u : Nat, l = Lib.decDigits u → l.length ≤ 10 → r = ((u : Int), true))) ?_ ?_ 0 (by simp) rfl
  · obtain ⟨r, hr, h3, h4⟩ := H
    refine ⟨r, Ev.step (fun k => by rw [spec_l01Digits.j0]) ?_, h3, h4⟩
    simp only [Bool.false_eq_true, if_false]
    exact hr
  · intro acc ha hv
    have h10 : (10 : Nat) ^ l.length ≤ 10 ^ 10 := Nat.pow_le_pow_right (by decide) hl
    have e10 : (10 : Nat) ^ 10 = 10000000000 := by decide
    refine ⟨((acc : Int), (Lib.decDigits acc == l)), Ev.step (fun k => by rw [spec_l01Digits.l0]) ?_, fun h => ⟨acc, rfl, (beq_iff_eq.1 h).symm, hl⟩, fun u hu _ => ?_⟩
    · simp only [bA_size, if_neg (show ¬ (l.length : Int) < (l.length : Int) by omega)]
      refine Ev.bind (spec_dec acc acc (Nat.le_refl _) (by omega)) ?_
      simp only [toList_bA]
      exact Ev.now _
    · have : acc = u := by rw [hv, hu, dec_val']
      subst this
      simp [← hu]
  · intro p x s he ih acc ha hv
    have hp := mid_lt he
    have hpl : p.length < 10 := by omega
    have h10 : (10 : Nat) ^ p.length ≤ 10 ^ 10 := Nat.pow_le_pow_right (by decide) (by omega)
    have e10 : (10 : Nat) ^ 10 = 10000000000 := by decide
    have hx := bt_mid he
    by_cases c1 : (x.toNat : Int) < 48
    · refine ⟨(0, false), Ev.step (fun k => by rw [spec_l01Digits.l0]) ?_, fun h => by simp at h, fun u hu _ => ?_⟩
      · simp only [bA_size, if_pos hp, if_pos (nat_nn p.length), hx, if_pos c1]
        exact Ev.now _
      · have : isD x := dec_isD' (u := u) (by rw [← hu, he]; simp)
        unfold isD at this
        omega
    by_cases c2 : (x.toNat : Int) > 57
    · refine ⟨(0, false), Ev.step (fun k => by rw [spec_l01Digits.l0]) ?_, fun h => by simp at h, fun u hu _ => ?_⟩
      · simp only [bA_size, if_pos hp, if_pos (nat_nn p.length), hx, if_neg c1, if_pos c2]
        exact Ev.now _
      · have : isD x := dec_isD' (u := u) (by rw [← hu, he]; simp)
        unfold isD at this
        omega
    have ew : wrap64 (wrap64 (10 * (acc : Int)) + ((x.toNat : Int) - 48) % 256) = ((10 * acc + (x.toNat - 48) : Nat) : Int) := by
      rw [w64 (x := 10 * (acc : Int)) (by omega) (by omega), w64 (by omega) (by omega)]
      omega
    obtain ⟨r, hr, h3, h4⟩ := ih (10 * acc + (x.toNat - 48)) (by rw [List.length_append, List.length_singleton, Nat.pow_succ]; omega) (by rw [hv]; simp [valF])
    refine ⟨r, Ev.step (fun k => by rw [spec_l01Digits.l0]) ?_, h3, h4⟩
    simp only [bA_size, if_pos hp, if_pos (nat_nn p.length), hx, if_neg c1, if_neg c2, ew, mid_next he (by omega)]
    exact hr
theorem spec_signed (l : List UInt8) : ∃ r : Int × Bool, Ev (fun k => spec_l01Signed.f k (bA l)) r ∧ NumAt l r := by
  simp only [spec_l01Signed.f, bA_size]
  have plain : ∃ r : Int × Bool, Ev (fun k => spec_l01Signed.j0 k (bA l) false) r ∧ NumAt l r := by
    obtain ⟨r, hr, h1, h2⟩ := spec_digits l
    refine ⟨(r.1, r.2), Ev.step (fun k => by rw [spec_l01Signed.j0]) ?_, fun h _ => h1 h, h2⟩
    simp only [Bool.false_eq_true, if_false]
    exact Ev.bind hr (Ev.now _)
  cases l with
  | nil =>
    obtain ⟨r, hr, h⟩ := plain
    refine ⟨r, ?_, h⟩
    simp only [List.length_nil, if_neg (show ¬ ((0 : Nat) : Int) > 0 by decide)]
    exact hr
  | cons x t =>
    have hx : bt (bA (x :: t)) 0 = (x.toNat : Int) := bt_mid (l := x :: t) (p := []) rfl
    have hpos : ((x :: t).length : Int) > 0 := by simp
    have hpos' : (0 : Int) < ((x :: t).length : Int) := by simp
    by_cases c : (x.toNat : Int) = 45
    · obtain ⟨r, hr, h1, h2⟩ := spec_digits t
      have ex : (bA (x :: t)).extract 1 (bA (x :: t)).size = bA t := by
        apply ByteArray.ext
        rw [← Array.toList_inj]
        simp [bA, ByteArray.size]
      have nodec : ∀ u : Nat, x :: t = Lib.decDigits u → False := by
        intro u hu
        have : isD x := dec_isD' (u := u) (by rw [← hu]; simp)
        unfold isD at this
        omega
      by_cases hr2 : r.2 = true
      · obtain ⟨u, e1, e2, e3⟩ := h1 hr2
        have hu := dec_lt (u := u) (by rw [← e2]; exact e3)
        have en : wrap64 (-(u : Int)) = -(u : Int) := w64 (by omega) (by omega)
        refine ⟨(-(u : Int), decide ((u : Int) > 0)), ?_, fun h h0 => ?_, fun u' hu' _ => (nodec u' hu').elim⟩
        · simp only [if_pos hpos, if_pos hpos', hx, beq_iff_eq.2 c]
          refine Ev.step (fun k => by rw [spec_l01Signed.j0]) ?_
          simp only [if_true, if_pos (show (1 : Int) ≤ ((bA (x :: t)).size : Int) by rw [bA_size]; simp; omega), ex]
          refine Ev.bind hr ?_
          simp only [hr2, if_true, e1, en]
          exact Ev.now _
        · simp only [decide_eq_true_eq] at h
          simp only at h0
          omega
      · refine ⟨(wrap64 (-r.1), false), ?_, fun h => by simp at h, fun u' hu' _ => (nodec u' hu').elim⟩
        simp only [if_pos hpos, if_pos hpos', hx, beq_iff_eq.2 c]
        refine Ev.step (fun k => by rw [spec_l01Signed.j0]) ?_
        simp only [if_true, if_pos (show (1 : Int) ≤ ((bA (x :: t)).size : Int) by rw [bA_size]; simp; omega), ex]
        refine Ev.bind hr ?_
        simp only [if_neg hr2]
        exact Ev.now _
    · obtain ⟨r, hr, h⟩ := plain
      refine ⟨r, ?_, h⟩
      simp only [if_pos hpos, if_pos hpos', hx, beq_eq_false_iff_ne.2 c]
      exact hr
/-- Numbers of a row of strings. -/
def Nums : List Int → List (List UInt8) → Prop
  | [], [] => True
  | n :: ns, l :: ls => (0 ≤ n → ∃ u : Nat, n = (u : Int) ∧ l = Lib.decDigits u ∧ l.length ≤ 10) ∧ Nums ns ls
  | _, _ => False
theorem spec_numbers (ls : List (List UInt8)) (hn : ls.length ≤ 10000000) : ∃ r : List Int × Bool, Ev (fun k => spec_l01Numbers.f k (ls.map bA)) r ∧ (r.2 = true → Nums r.1 ls) ∧ (∀ us : List Nat, ls = us.map Lib.decDigits → (∀ l ∈ ls, l.length ≤ 10) → r = (us.map (fun u : Nat => (u : Int)), true)) := by
  simp only [spec_l01Numbers.f]
  have lm : ((ls.map bA).length : Int) = (ls.length : Int) := by simp
  have H := loop_list ls (fun p s => ∀ acc : List Int, acc.length = p.length → ∃ r : List Int × Bool, Ev (fun k => spec_l01Numbers.l0 k (ls.map bA) acc (p.length : Int)) r ∧ (r.2 = true → ∃ ns, r.1 = acc ++ ns ∧ Nums ns s) ∧ (∀ us : List Nat, s = us.map Lib.decDigits → (∀ l ∈ s, l.length ≤ 10) → r = (acc ++ us.map (fun u : Nat => (u : Int)), true))) ?_ ?_ [] rfl
  · obtain ⟨r, hr, h1, h2⟩ := H
    refine ⟨r, hr, fun h => ?_, by simpa using h2⟩
    obtain ⟨ns, e, hns⟩ := h1 h
    rw [List.nil_append] at e
    rw [e]
    exact hns
  · intro acc _
    refine ⟨(acc, true), Ev.step (fun k => by rw [spec_l01Numbers.l0]) ?_, fun _ => ⟨[], by simp, trivial⟩, fun us hus _ => ?_⟩
    · simp only [lm, if_neg (nlt_self ls)]
      exact Ev.now _
    · have : us = [] := List.map_eq_nil_iff.1 hus.symm
      subst this
      simp
  · intro p x s he ih acc hacc
    have hp := mid_lt he
    have hrd : rdOf ByteArray.empty (ls.map bA) (p.length : Int) = bA x := by
      unfold rdOf
      rw [he]
      simp
    obtain ⟨q, hq, n1, n2⟩ := spec_signed x
    by_cases hq2 : q.2 = true
    · obtain ⟨r, hr, h1, h2⟩ := ih (acc ++ [q.1]) (by simp [hacc])
      refine ⟨r, Ev.step (fun k => by rw [spec_l01Numbers.l0]) ?_, fun h => ?_, fun us hus hlen => ?_⟩
      · simp only [lm, if_pos hp, if_pos (nat_nn p.length), hrd]
        refine Ev.bind hq ?_
        simp only [hq2, if_true, if_pos (show acc.length < 17592186044416 by omega), mid_next he (by omega)]
        exact hr
      · obtain ⟨ns, e, hns⟩ := h1 h
        exact ⟨q.1 :: ns, by rw [e]; simp, n1 hq2, hns⟩
      · cases us with
        | nil => simp at hus
        | cons u us =>
          simp only [List.map_cons, List.cons.injEq] at hus
          have e := n2 u hus.1 (hlen x (by simp))
          rw [h2 us hus.2 (fun l hl => hlen l (by simp [hl])), e]
          simp
    · refine ⟨([], false), Ev.step (fun k => by rw [spec_l01Numbers.l0]) ?_, fun h => by simp at h, fun us hus hlen => ?_⟩
      · simp only [lm, if_pos hp, if_pos (nat_nn p.length), hrd]
        refine Ev.bind hq ?_
        simp only [if_neg hq2]
        exact Ev.now _
      · cases us with
        | nil => simp at hus
        | cons u us =>
          simp only [List.map_cons, List.cons.injEq] at hus
          have e := n2 u hus.1 (hlen x (by simp))
          rw [e] at hq2
          exact absurd rfl hq2
/-! #### Pieces -/
def spl (c : UInt8) (q : List UInt8) : List UInt8 → List (List UInt8)
  | [] => [q]
  | x :: t => if x = c then q :: spl c [] t else spl c (q ++ [x]) t
theorem spl_ne (c : UInt8) : ∀ (t q : List UInt8), spl c q t ≠ [] := by
  intro t
  induction t with
  | nil => intro q; simp [spl]
  | cons x t ih =>
    intro q
    simp only [spl]
    split
    · simp
    · exact ih _
theorem spl_length (c : UInt8) : ∀ (t q : List UInt8), (spl c q t).length ≤ t.length + 1 := by
  intro t
  induction t with
  | nil => intro q; simp [spl]
  | cons x t ih =>
    intro q
    simp only [spl]
    split
    · have := ih []; simp; omega
    · have := ih (q ++ [x]); simp; omega
theorem spl_join (c : UInt8) : ∀ (t q : List UInt8), Lib.join (spl c q t) [c] = q ++ t := by
  intro t
  induction t with
  | nil => intro q; simp [spl, Lib.join_one]
  | cons x t ih =>
    intro q
    simp only [spl]
    split
    · rename_i h
      subst h
      have h1 := ih []
      cases hs : spl x [] t with
      | nil => exact absurd hs (spl_ne _ _ _)
      | cons y r =>
        rw [hs, Lib.join_cons] at h1
        rw [Lib.join_cons]
        simp only [Lib.joinTail, List.map_cons, List.flatten_cons] at h1 ⊢
        rw [List.append_assoc, h1]
        simp
    · rw [ih]
      simp
theorem spl_one (c : UInt8) : ∀ (t q s : List UInt8), (∀ x ∈ t, x ≠ c) → spl c q (t ++ c :: s) = (q ++ t) :: spl c [] s := by
  intro t
  induction t with
  | nil => intro q s _; simp [spl]
  | cons x t ih =>
    intro q s h
    simp only [List.cons_append, spl, if_neg (h x (by simp))]
    rw [ih _ _ (fun y hy => h y (by simp [hy]))]
    simp
theorem spl_end (c : UInt8) : ∀ (t q : List UInt8), (∀ x ∈ t, x ≠ c) → spl c q t = [q ++ t] := by
  intro t
  induction t with
  | nil => intro q _; simp [spl]
  | cons x t ih =>
    intro q h
    simp only [spl, if_neg (h x (by simp))]
    rw [ih _ (fun y hy => h y (by simp [hy]))]
    simp
theorem spl_of_join (c : UInt8) : ∀ (r : List (List UInt8)) (y : List UInt8), (∀ d ∈ y :: r, ∀ x ∈ d, x ≠ c) → spl c [] (Lib.join (y :: r) [c]) = y :: r := by
  intro r
  induction r with
  | nil =>
    intro y h
    rw [Lib.join_one, spl_end c y [] (h y (by simp))]
    rfl
  | cons z r ih =>
    intro y h
    have e : Lib.join (y :: z :: r) [c] = y ++ c :: Lib.join (z :: r) [c] := by
      rw [Lib.join_cons, Lib.join_cons]
      simp [Lib.joinTail]
    rw [e, spl_one c y [] _ (h y (by simp)), ih z (fun d hd => h d (by simp [List.mem_cons.1 hd]))]
    rfl
theorem spec_split (l : List UInt8) (c : UInt8) (hl : l.length ≤ 5000000) : Ev (fun k => spec_l01Split.f k (bA l) (c.toNat : Int)) ((spl c [] l).map bA) := by
  simp only [spec_l01Split.f]
  have ext : ∀ (p q s : List UInt8), l = p ++ q ++ s → (bA l).extract (p.length : Int).toNat ((p.length + q.length : Nat) : Int).toNat = bA q := by
    intro p q s h
    apply ByteArray.ext
    rw [← Array.toList_inj]
    rw [Int.toNat_natCast, Int.toNat_natCast]
    simp [bA, h]
  have H : ∀ (s p q : List UInt8) (out : List ByteArray), l = p ++ q ++ s → out.length ≤ p.length → Ev (fun k => spec_l01Split.l0 k (bA l) (c.toNat : Int) out (p.length : Int) ((p.length + q.length : Nat) : Int)) (out ++ (spl c q s).map bA) := by
    intro s
    induction s with
    | nil =>
      intro p q out h ho
      have hll : l.length = p.length + q.length := by rw [h]; simp
      have w1 : wrap64 (((p.length + q.length : Nat) : Int) + 1) = ((p.length + q.length : Nat) : Int) + 1 := w64 (by omega) (by omega)
      refine Ev.step (fun k => by rw [spec_l01Split.l0]) ?_
      simp only [bA_size, if_pos (show ((p.length + q.length : Nat) : Int) ≤ (l.length : Int) by omega), if_pos (show ((p.length + q.length : Nat) : Int) = (l.length : Int) by omega), if_pos (nat_nn p.length), if_pos (show (p.length : Int) ≤ ((p.length + q.length : Nat) : Int) by omega), if_pos (show out.length < 8796093022208 by omega), ext p q [] h, w1]
      refine Ev.step (fun k => by rw [spec_l01Split.l0]) ?_
      simp only [bA_size, if_neg (show ¬ ((p.length + q.length : Nat) : Int) + 1 ≤ (l.length : Int) by omega)]
      exact Ev.now _
    | cons x s ih =>
      intro p q out h ho
      have hll : l.length = p.length + q.length + s.length + 1 := by rw [h]; simp; omega
      have hx : bt (bA l) ((p.length + q.length : Nat) : Int) = (x.toNat : Int) := by
        have := bt_mid h
        rwa [List.length_append] at this
      have w1 : wrap64 (((p.length + q.length : Nat) : Int) + 1) = ((p.length + (q.length + 1) : Nat) : Int) := by rw [w64 (by omega) (by omega)]; omega
      by_cases hc : x = c
      · have i1 := ih (p ++ q ++ [x]) [] (out ++ [bA q]) (by rw [h]; simp) (by simp; omega)
        have e1 : (((p ++ q ++ [x]).length : Nat) : Int) = ((p.length + (q.length + 1) : Nat) : Int) := by simp <;> omega
        have e2 : (((p ++ q ++ [x]).length + ([] : List UInt8).length : Nat) : Int) = ((p.length + (q.length + 1) : Nat) : Int) := by simp <;> omega
        rw [e1, e2] at i1
        refine Ev.step (fun k => by rw [spec_l01Split.l0]) ?_
        simp only [bA_size, if_pos (show ((p.length + q.length : Nat) : Int) ≤ (l.length : Int) by omega), if_neg (show ¬ ((p.length + q.length : Nat) : Int) = (l.length : Int) by omega), if_pos (nat_nn (p.length + q.length)), if_pos (show ((p.length + q.length : Nat) : Int) < (l.length : Int) by omega), hx, if_pos (show (x.toNat : Int) = (c.toNat : Int) by rw [hc]), if_pos (nat_nn p.length), if_pos (show (p.length : Int) ≤ ((p.length + q.length : Nat) : Int) by omega), if_pos (show out.length < 8796093022208 by omega), ext p q (x :: s) h, w1]
        simp only [spl, if_pos hc, List.map_cons]
        rw [List.append_assoc] at i1
        exact i1
      · have i1 := ih p (q ++ [x]) out (by rw [h]; simp) ho
        have e2 : ((p.length + (q ++ [x]).length : Nat) : Int) = ((p.length + (q.length + 1) : Nat) : Int) := by simp
        rw [e2] at i1
        have hne : ¬ (x.toNat : Int) = (c.toNat : Int) := fun hh => hc (UInt8.toNat_inj.1 (by omega))
        refine Ev.step (fun k => by rw [spec_l01Split.l0]) ?_
        simp only [bA_size, if_pos (show ((p.length + q.length : Nat) : Int) ≤ (l.length : Int) by omega), if_neg (show ¬ ((p.length + q.length : Nat) : Int) = (l.length : Int) by omega), if_pos (nat_nn (p.length + q.length)), if_pos (show ((p.length + q.length : Nat) : Int) < (l.length : Int) by omega), hx, if_neg hne, w1]
        simp only [spl, if_neg hc]
        exact i1
  exact H l [] [] [] rfl (Nat.le_refl _)
/-! #### The program's own reading -/
theorem parse_dec {M : Nat} (hM : 1000000000000000000 ≤ M) : ∀ (l : List UInt8) (acc : Nat), (∀ c ∈ l, isD c) → valF acc l < 1000000000000000000 → Lib.parseUintM M acc l = .ok (valF acc l) := by
  intro l
  induction l with
  | nil => intro acc _ _; rfl
  | cons c l ih =>
    intro acc h hv
    have h1 : 48 ≤ c.toNat ∧ c.toNat ≤ 57 := h c (by simp)
    have h2 := val_le l (10 * acc + (c.toNat - 48))
    have hv' : valF (10 * acc + (c.toNat - 48)) l < 1000000000000000000 := hv
    rw [Lib.parseUintM, if_pos h1, if_neg (by omega), if_neg (by omega), Nat.mul_comm acc 10, ih _ (fun x hx => h x (by simp [hx])) hv']
    rfl
theorem parse_int {u : Nat} (h : u < 10000000000) : Lib.parseIntB 64 (Lib.decDigits u) = .ok (u : Int) := by
  have hd : ∀ c ∈ Lib.decDigits u, isD c := fun c hc => dec_isD' hc
  have e64 : (2 : Nat) ^ 64 - 1 = 18446744073709551615 := by decide
  have hu : Lib.parseUintB 64 (Lib.decDigits u) = .ok u := by
    have := parse_dec (M := 18446744073709551615) (by decide) (Lib.decDigits u) 0 hd (by rw [dec_val']; omega)
    rw [Lib.parseUintB, if_neg (dec_ne u), e64, this, dec_val']
  cases hl : Lib.decDigits u with
  | nil => exact absurd hl (dec_ne u)
  | cons c r =>
    rw [hl] at hu hd
    have hc := hd c (by simp)
    unfold isD at hc
    rw [Lib.parseIntB_plain 64 c r (by omega) (by omega), hu]
    have e63 : (2 : Nat) ^ (64 - 1) = 9223372036854775808 := by decide
    simp only [Lib.signlessC, e63, if_neg (show ¬ 9223372036854775808 ≤ u by omega)]
theorem impl_read (l : List UInt8) (hl : l.length ≤ 5000000) : ∃ r : Int × Bool, impl_readDecimal.f (bA l) = some r ∧ (r.2 = true → 0 ≤ r.1) ∧ (∀ u : Nat, l = Lib.decDigits u → l.length ≤ 10 → r = ((u : Int), true)) ∧ (r.2 = true → ∃ u : Nat, r.1 = (u : Int) ∧ l = Lib.decDigits u ∧ l.length ≤ 10) := by
  have big : ∀ v : Int, 0 ≤ v → Lib.parseIntB 64 l = .ok v → v ≤ 9223372036854775807 := by
    intro v h0 h
    cases l with
    | nil => simp [Lib.parseIntB] at h
    | cons c r =>
      have e63 : (2 : Nat) ^ (64 - 1) = 9223372036854775808 := by decide
      have hs : ∀ e, Lib.signlessC 9223372036854775808 e = .ok v → v ≤ 9223372036854775807 := by
        intro e he
        cases e with
        | ok u =>
          simp only [Lib.signlessC] at he
          split at he
          · cases he
          · cases he; omega
        | «syntax» => cases he
        | range => cases he
      have hm : ∀ e, Lib.signedC 9223372036854775808 e = .ok v → v ≤ 9223372036854775807 := by
        intro e he
        cases e with
        | ok u =>
          simp only [Lib.signedC] at he
          split at he
          · cases he
          · cases he; omega
        | «syntax» => cases he
        | range => cases he
      by_cases h43 : c.toNat = 43
      · have : c = 43 := UInt8.toNat_inj.1 (by rw [h43]; rfl)
        subst this
        rw [Lib.parseIntB_plus, e63] at h
        exact hs _ h
      · by_cases h45 : c.toNat = 45
        · have : c = 45 := UInt8.toNat_inj.1 (by rw [h45]; rfl)
          subst this
          rw [Lib.parseIntB_minus, e63] at h
          exact hm _ h
        · rw [Lib.parseIntB_plain 64 c r h43 h45, e63] at h
          exact hs _ h
  simp only [impl_readDecimal.f, bA_size, bA_list, if_pos (show l.length ≤ 281474976710656 by omega)]
  have none : (∀ v : Int, Lib.parseIntB 64 l ≠ .ok v) → (∀ u : Nat, l = Lib.decDigits u → l.length ≤ 10 → ((0 : Int), false) = ((u : Int), true)) := by
    intro h u hu hlen
    have := parse_int (u := u) (dec_lt (by rw [← hu]; exact hlen))
    rw [← hu] at this
    exact absurd this (h _)
  cases hp : Lib.parseIntB 64 l with
  | «syntax» => exact ⟨(0, false), rfl, fun h => by simp at h, none (by intro v; rw [hp]; simp), fun h => by simp at h⟩
  | range => exact ⟨(0, false), rfl, fun h => by simp at h, none (by intro v; rw [hp]; simp), fun h => by simp at h⟩
  | ok v =>
    have uniq : ∀ u : Nat, l = Lib.decDigits u → l.length ≤ 10 → v = (u : Int) := by
      intro u hu hlen
      have := parse_int (u := u) (dec_lt (by rw [← hu]; exact hlen))
      rw [← hu, hp] at this
      cases this
      rfl
    by_cases c1 : (l.length : Int) > 10
    · exact ⟨(0, false), by simp only [if_pos c1], fun h => by simp at h, fun u _ h => by omega, fun h => by simp at h⟩
    by_cases c2 : v < 0
    · exact ⟨(0, false), by simp only [if_neg c1, if_pos c2], fun h => by simp at h, fun u hu h => by have := uniq u hu h; omega, fun h => by simp at h⟩
    have hb := big v (by omega) hp
    have hd : impl_decimal.f v = some (bA (Lib.decDigits v.toNat)) := by
      have e : Lib.itoa v = Lib.decDigits v.toNat := by unfold Lib.itoa; rw [if_neg c2]
      simp only [impl_decimal.f, strconv_FormatInt_46.f, if_true, if_pos (show (-9223372036854775808 : Int) ≤ v by omega), if_pos hb, e, Option.bind_some]
      rfl
    by_cases c3 : Lib.decDigits v.toNat = l
    · refine ⟨(v, true), by simp only [if_neg c1, if_neg c2, hd, Option.bind_some, toList_bA, if_pos c3], fun _ => by simp only; omega, fun u hu h => by rw [uniq u hu h], fun _ => ⟨v.toNat, by simp only; omega, c3.symm, by omega⟩⟩
    · refine ⟨(0, false), by simp only [if_neg c1, if_neg c2, hd, Option.bind_some, toList_bA, if_neg c3], fun h => by simp at h, fun u hu h => ?_, fun h => by simp at h⟩
      have := uniq u hu h
      subst this
      exact absurd (by rw [Int.toNat_natCast, hu]) c3
theorem dec_le : ∀ (k u : Nat), u < 10 ^ k → 1 ≤ k → (Lib.decDigits u).length ≤ k := by
  intro k
  induction k with
  | zero => intro u _ h; omega
  | succ k ih =>
    intro u h _
    rw [Lib.decDigits]
    by_cases h1 : u < 10
    · rw [dif_pos h1]; simp
    · rw [dif_neg h1, List.length_append, List.length_singleton]
      rw [Nat.pow_succ] at h
      by_cases hk : 1 ≤ k
      · have := ih (u / 10) (by omega) hk
        omega
      · have : k = 0 := by omega
        subst this
        simp at h
        omega
theorem cut_at (c : UInt8) : ∀ (p s : List UInt8), (∀ x ∈ p, x ≠ c) → Lib.index (p ++ c :: s) [c] = (p.length : Int) := by
  intro p
  induction p with
  | nil => intro s _; simp [Lib.index]
  | cons x p ih =>
    intro s h
    have hx : ([c].isPrefixOf (x :: (p ++ c :: s))) = false := by
      simp [List.isPrefixOf]
      exact fun e => h x (by simp) e.symm
    have i1 := ih s (fun y hy => h y (by simp [hy]))
    rw [List.cons_append, Lib.index, hx, i1]
    have : ((p.length : Int) == -1) = false := by rw [beq_eq_false_iff_ne]; omega
    simp [this]
def inR (a lo hi : Int) : Bool := decide (lo ≤ a) && decide (a ≤ hi)
theorem inR_iff {a lo hi : Int} : inR a lo hi = true ↔ lo ≤ a ∧ a ≤ hi := by simp [inR]
theorem l01In (a lo hi : Int) : spec_l01In.f a lo hi = some (inR a lo hi) := by
  unfold spec_l01In.f inR
  split
  · rename_i h; rw [decide_eq_true (show lo ≤ a from h), Bool.true_and]
  · rename_i h; rw [decide_eq_false (show ¬ lo ≤ a from h), Bool.false_and]
theorem inRange (a lo hi : Int) : impl_inRange.f a lo hi = some (inR a lo hi) := by
  unfold impl_inRange.f inR
  split
  · rename_i h; rw [decide_eq_true (show lo ≤ a from h), Bool.true_and]
  · rename_i h; rw [decide_eq_false (show ¬ lo ≤ a from h), Bool.false_and]
def stepB (a b c : Int) : Bool := inR a 0 10000 && (inR b 1 100000 && inR c 0 500)
theorem spec_IsStep (a b c : Int) : spec_IsStep.f a b c = some (stepB a b c) := by
  simp only [spec_IsStep.f, l01In, Option.bind_some, stepB]
  cases inR a 0 10000 <;> cases inR b 1 100000 <;> cases inR c 0 500 <;> rfl
theorem impl_IsStep (a b c : Int) : impl_IsStep.f a b c = some (stepB a b c) := by
  simp only [impl_IsStep.f, inRange, Option.bind_some, stepB]
  cases inR a 0 10000 <;> cases inR b 1 100000 <;> cases inR c 0 500 <;> rfl
def quo (a b : Int) : Int := wrap64 (Int.tdiv (wrap64 ((wrap64 (a + b)) - 1)) b)
theorem l01Ceil (a b : Int) (h : b ≠ 0) : spec_l01Ceil.f a b = some (quo a b) := by
  unfold spec_l01Ceil.f
  rw [if_neg h]
  rfl
theorem quotient (a b : Int) (h : b ≠ 0) : impl_quotient.f a b = some (quo a b) := by
  unfold impl_quotient.f
  rw [if_neg h]
  rfl
def minB (a b n : Int) : Int := wrap64 (a + quo (wrap64 (60 * n)) b)
theorem stepB_pos {a b c : Int} (h : stepB a b c = true) : b ≠ 0 := by
  simp only [stepB, Bool.and_eq_true, inR_iff] at h
  omega
theorem l19Time (a b c n : Int) (h : stepB a b c = true) : spec_l19Time.f a b c n = some (minB a b n) := by
  simp only [spec_l19Time.f, l01Ceil _ b (stepB_pos h), Option.bind_some]
  rfl
theorem minutesOf (a b c n : Int) (h : stepB a b c = true) : impl_minutesOf.f a b c n = some (minB a b n) := by
  simp only [impl_minutesOf.f, quotient _ b (stepB_pos h), Option.bind_some, Int.mul_comm n 60]
  rfl
def codeOf (b : Bool) (n : Int) : Int := if b = true then (if inR n 0 1000000 = true then 0 else 2) else 1
theorem l19Code (b : Bool) (n : Int) : spec_l19Code.f b n = some (codeOf b n) := by
  simp only [spec_l19Code.f, l01In, Option.bind_some, codeOf]
  cases b <;> cases inR n 0 1000000 <;> rfl
theorem codeOf_zero {b : Bool} {n : Int} (h : codeOf b n = 0) : b = true ∧ 0 ≤ n ∧ n ≤ 1000000 := by
  unfold codeOf at h
  cases b <;> cases h1 : inR n 0 1000000 <;> simp [h1] at h
  exact ⟨rfl, inR_iff.1 h1⟩
def okStep (x : S37) : Bool := stepB x.f0 x.f1 x.f2
def routeB (l : List S37) : Bool := l.all okStep && (decide (1 ≤ l.length) && decide (l.length ≤ 10))
theorem spec_IsRoute (l : List S37) (h : l.length ≤ 1048576) : Ev (fun k => spec_IsRoute.f k l) (routeB l) := by
  refine loop_list l (fun p s => Ev (fun k => spec_IsRoute.l0 k l (p.length : Int)) (s.all okStep && (decide (1 ≤ l.length) && decide (l.length ≤ 10)))) ?_ ?_
  · refine Ev.step (fun k => by rw [spec_IsRoute.l0]) ?_
    simp only [if_neg (nlt_self l), List.all_nil, Bool.true_and]
    by_cases h1 : (l.length : Int) ≥ 1
    · simp only [if_pos h1]
      exact ev_eq (Ev.now _) (by rw [decide_eq_true (show 1 ≤ l.length by omega), Bool.true_and]; exact decide_eq_decide.2 (by omega))
    · simp only [if_neg h1]
      exact ev_eq (Ev.now _) (by rw [decide_eq_false (show ¬ 1 ≤ l.length by omega), Bool.false_and])
  · intro p x s he ih
    refine Ev.step (fun k => by rw [spec_IsRoute.l0]) ?_
    simp only [if_pos (mid_lt he), if_pos (nat_nn p.length), mid_next he (by omega), rd_T37, mid_get he, spec_IsStep, Option.bind_some, List.all_cons]
    cases h0 : stepB x.f0 x.f1 x.f2 <;> simp [okStep, h0] <;> first | exact Ev.now _ | simpa [mid_next he (by omega)] using ih
theorem impl_IsRoute_1_ok (x : S37) : impl_IsRoute_1.f x.f0 x.f1 x.f2 = some (!(okStep x)) := by
  simp only [impl_IsRoute_1.f, impl_IsStep, Option.bind_some, okStep]
theorem contains_impl_IsRoute_1 (l : List S37) (h : l.length ≤ 1048576) : Ev (fun k => slices_ContainsFunc_at_impl_IsRoute_1.f k l) (!(l.all okStep)) := by
  have H := loop_list l (fun p s => ∃ r, Ev (fun k => slices_IndexFunc_at_impl_IsRoute_1.l0 k l (l.length : Int) (p.length : Int)) r ∧ decide (r ≥ 0) = !(s.all okStep)) ?_ ?_
  · obtain ⟨r, hr, e⟩ := H
    rw [← e]
    exact Ev.bind hr (Ev.now _)
  · refine ⟨-1, Ev.step (fun k => by rw [slices_IndexFunc_at_impl_IsRoute_1.l0]) ?_, by simp⟩
    simp only [if_neg (nlt_self l)]
    exact Ev.now _
  · rintro p x s he ⟨r, ih, e⟩
    by_cases hx : okStep x = true
    · refine ⟨r, Ev.step (fun k => by rw [slices_IndexFunc_at_impl_IsRoute_1.l0]) ?_, by rw [e]; simp [hx]⟩
      simp only [if_pos (mid_lt he), if_pos (nat_nn p.length), rd_T37, mid_get he, impl_IsRoute_1_ok, hx, Option.bind_some, mid_next he (by omega)]
      exact ih
    · refine ⟨(p.length : Int), Ev.step (fun k => by rw [slices_IndexFunc_at_impl_IsRoute_1.l0]) ?_, by simp [hx]⟩
      simp only [if_pos (mid_lt he), if_pos (nat_nn p.length), rd_T37, mid_get he, impl_IsRoute_1_ok, Bool.eq_false_iff.2 hx, Option.bind_some]
      exact Ev.now _
theorem impl_IsRoute (l : List S37) (h : l.length ≤ 1048576) : Ev (fun k => impl_IsRoute.f k l) (routeB l) := by
  simp only [impl_IsRoute.f, impl_length_Step.f, inRange, Option.bind_some]
  cases hl : inR (l.length : Int) 1 10
  · simp only [Bool.false_eq_true, if_false]
    have e : (decide (1 ≤ l.length) && decide (l.length ≤ 10)) = false := by
      rw [Bool.eq_false_iff] at hl ⊢
      intro h; apply hl; rw [inR_iff]; simp at h; omega
    exact ev_eq (Ev.now _) (by rw [routeB, e, Bool.and_false])
  · simp only [if_true]
    rw [inR_iff] at hl
    exact ev_eq (Ev.bind (contains_impl_IsRoute_1 l h) (Ev.now _)) (by simp [routeB, show l.length ≤ 10 by omega, show 1 ≤ l.length by omega])
theorem okStep_of {l : List S37} {n : Int} (h : codeOf (routeB l) n = 0) {x : S37} (hx : x ∈ l) : stepB x.f0 x.f1 x.f2 = true := by
  have := (codeOf_zero h).1
  simp only [routeB, Bool.and_eq_true, List.all_eq_true] at this
  exact this.1 x hx
theorem route_len {l : List S37} {n : Int} (h : codeOf (routeB l) n = 0) : 1 ≤ l.length ∧ l.length ≤ 10 := by
  have := (codeOf_zero h).1
  simp only [routeB, Bool.and_eq_true, decide_eq_true_eq] at this
  exact this.2

def stepL (x : S37) : List UInt8 := Lib.decDigits x.f0.toNat ++ [44] ++ Lib.decDigits x.f1.toNat ++ [44] ++ Lib.decDigits x.f2.toNat
theorem step_range {x : S37} (h : okStep x = true) : (0 ≤ x.f0 ∧ x.f0 ≤ 100000) ∧ (0 ≤ x.f1 ∧ x.f1 ≤ 100000) ∧ (0 ≤ x.f2 ∧ x.f2 ≤ 100000) := by
  simp only [okStep, stepB, Bool.and_eq_true, inR_iff] at h
  omega
theorem stepL_len {x : S37} (h : okStep x = true) : (stepL x).length ≤ 300005 := by
  obtain ⟨h0, h1, h2⟩ := step_range h
  have d0 := dec_len x.f0.toNat x.f0.toNat (Nat.le_refl _)
  have d1 := dec_len x.f1.toNat x.f1.toNat (Nat.le_refl _)
  have d2 := dec_len x.f2.toNat x.f2.toNat (Nat.le_refl _)
  simp only [stepL, List.length_append, List.length_singleton]
  omega
theorem spec_step {x : S37} (h : okStep x = true) : Ev (fun k => spec_l01Join.f k ([x.f0, x.f1, x.f2] : List Int) (⟨#[44]⟩ : ByteArray)) (bA (stepL x)) := by
  obtain ⟨h0, h1, h2⟩ := step_range h
  have d0 := dec_len x.f0.toNat x.f0.toNat (Nat.le_refl _)
  have d1 := dec_len x.f1.toNat x.f1.toNat (Nat.le_refl _)
  have d2 := dec_len x.f2.toNat x.f2.toNat (Nat.le_refl _)
  have n0 := spec_number x.f0.toNat (by omega)
  have n1 := spec_number x.f1.toNat (by omega)
  have n2 := spec_number x.f2.toNat (by omega)
  rw [show ((x.f0.toNat : Nat) : Int) = x.f0 by omega] at n0
  rw [show ((x.f1.toNat : Nat) : Int) = x.f1 by omega] at n1
  rw [show ((x.f2.toNat : Nat) : Int) = x.f2 by omega] at n2
  have c : (⟨#[44]⟩ : ByteArray) = bA [44] := rfl
  have z : (⟨#[]⟩ : ByteArray) = bA [] := rfl
  have l3 : (([x.f0, x.f1, x.f2] : List Int).length : Int) = 3 := rfl
  have r0 : rd [x.f0, x.f1, x.f2] 0 = x.f0 := rfl
  have r1 : rd [x.f0, x.f1, x.f2] 1 = x.f1 := rfl
  have r2 : rd [x.f0, x.f1, x.f2] 2 = x.f2 := rfl
  have w1 : wrap64 ((0 : Int) + 1) = 1 := w64 (by omega) (by omega)
  have w2 : wrap64 ((1 : Int) + 1) = 2 := w64 (by omega) (by omega)
  have w3 : wrap64 ((2 : Int) + 1) = 3 := w64 (by omega) (by omega)
  simp only [spec_l01Join.f, c, z]
  refine Ev.step (fun k => by rw [spec_l01Join.l0]) ?_
  simp only [l3, if_pos (show (0 : Int) < 3 by decide), if_neg (show ¬ (0 : Int) > 0 by decide), if_pos (show (0 : Int) ≤ 0 by decide), r0]
  refine Ev.bind n0 ?_
  simp only [bA_size, bA_app, List.nil_append, List.length_nil, w1, if_pos (show 0 + (Lib.decDigits x.f0.toNat).length ≤ 9223372036854775807 by omega)]
  refine Ev.step (fun k => by rw [spec_l01Join.l0]) ?_
  simp only [l3, if_pos (show (1 : Int) < 3 by decide), if_pos (show (1 : Int) > 0 by decide), if_pos (show (0 : Int) ≤ 1 by decide), r1, bA_size, bA_app, List.length_singleton, if_pos (show (Lib.decDigits x.f0.toNat).length + 1 ≤ 9223372036854775807 by omega)]
  refine Ev.bind n1 ?_
  simp only [bA_size, bA_app, w2, List.length_append, List.length_singleton, if_pos (show (Lib.decDigits x.f0.toNat).length + 1 + (Lib.decDigits x.f1.toNat).length ≤ 9223372036854775807 by omega)]
  refine Ev.step (fun k => by rw [spec_l01Join.l0]) ?_
  simp only [l3, if_pos (show (2 : Int) < 3 by decide), if_pos (show (2 : Int) > 0 by decide), if_pos (show (0 : Int) ≤ 2 by decide), r2, bA_size, bA_app, List.length_append, List.length_singleton, if_pos (show (Lib.decDigits x.f0.toNat).length + 1 + (Lib.decDigits x.f1.toNat).length + 1 ≤ 9223372036854775807 by omega)]
  refine Ev.bind n2 ?_
  simp only [bA_size, bA_app, w3, List.length_append, List.length_singleton, if_pos (show (Lib.decDigits x.f0.toNat).length + 1 + (Lib.decDigits x.f1.toNat).length + 1 + (Lib.decDigits x.f2.toNat).length ≤ 9223372036854775807 by omega)]
  refine Ev.step (fun k => by rw [spec_l01Join.l0]) ?_
  simp only [l3, if_neg (show ¬ (3 : Int) < 3 by decide)]
  exact Ev.now _
theorem join_snoc (p : List (List UInt8)) (x : List UInt8) (hp : p ≠ []) : Lib.join (p ++ [x]) [32] = Lib.join p [32] ++ [32] ++ x := by
  cases p with
  | nil => exact absurd rfl hp
  | cons y r => simp [Lib.join_cons, Lib.joinTail]
theorem join_len (N : Nat) : ∀ p : List (List UInt8), (∀ x ∈ p, x.length ≤ N) → (Lib.join p [32]).length ≤ (N + 1) * p.length := by
  intro p h
  cases p with
  | nil => simp [Lib.join_nil]
  | cons y r =>
    have H : ∀ r : List (List UInt8), (∀ x ∈ r, x.length ≤ N) → (Lib.joinTail [32] r).length ≤ (N + 1) * r.length := by
      intro r
      induction r with
      | nil => intro _; simp [Lib.joinTail]
      | cons z r ih =>
        intro h
        have h1 := ih (fun x hx => h x (by simp [hx]))
        have h2 := h z (by simp)
        have e : Lib.joinTail [32] (z :: r) = [32] ++ z ++ Lib.joinTail [32] r := by simp [Lib.joinTail]
        rw [e]
        simp only [List.length_append, List.length_cons, List.length_nil, Nat.mul_add, Nat.mul_one]
        omega
    have h1 := H r (fun x hx => h x (by simp [hx]))
    have h2 := h y (by simp)
    rw [Lib.join_cons]
    simp only [List.length_append, List.length_cons, Nat.mul_add, Nat.mul_one]
    omega
def routeL (l : List S37) : List UInt8 := Lib.join (l.map stepL) [32]
theorem routeL_len {l : List S37} (h : ∀ x ∈ l, okStep x = true) : (routeL l).length ≤ 300006 * l.length := by
  have := join_len 300005 (l.map stepL) (fun y hy => by
    obtain ⟨x, hx, rfl⟩ := List.mem_map.1 hy
    exact stepL_len (h x hx))
  simpa [routeL] using this
theorem spec_routetext {l : List S37} (h : l.length ≤ 1048576) (hr : routeB l = true) : Ev (fun k => spec_RouteText.f k l) (bA (routeL l)) := by
  have hok : ∀ x ∈ l, okStep x = true := by
    simp only [routeB, Bool.and_eq_true, List.all_eq_true] at hr
    exact hr.1
  have hl10 : l.length ≤ 10 := by
    simp only [routeB, Bool.and_eq_true, decide_eq_true_eq] at hr
    exact hr.2.2
  simp only [spec_RouteText.f]
  refine Ev.bind (ev_eq (spec_IsRoute l h) hr) ?_
  have c : (⟨#[32]⟩ : ByteArray) = bA [32] := rfl
  simp only [if_true]
  refine loop_list l (fun p s => Ev (fun k => spec_RouteText.l0 k l (bA (routeL p)) (p.length : Int)) (bA (routeL l))) ?_ ?_
  · refine Ev.step (fun k => by rw [spec_RouteText.l0]) ?_
    simp only [if_neg (nlt_self l)]
    exact Ev.now _
  · intro p x s he ih
    have hx : rd_T37 l (p.length : Int) = x := by unfold rd_T37; exact mid_get he _
    have hp := mid_lt he
    have hok' : ∀ y ∈ p, okStep y = true := fun y hy => hok y (by rw [he]; simp [hy])
    have hxo : okStep x = true := hok x (by rw [he]; simp)
    have hb := routeL_len hok'
    have hb2 := stepL_len hxo
    refine Ev.step (fun k => by rw [spec_RouteText.l0]) ?_
    by_cases h0 : p.length = 0
    · have : p = [] := List.eq_nil_of_length_eq_zero h0
      subst this
      have e : routeL ([] ++ [x]) = stepL x := by simp [routeL, Lib.join_one]
      rw [e] at ih
      simp only [if_pos hp, if_neg (show ¬ ((([] : List S37).length : Nat) : Int) > 0 by simp), if_pos (nat_nn ([] : List S37).length), hx]
      refine Ev.bind (spec_step hxo) ?_
      simp only [bA_size, bA_app, show routeL [] = [] from rfl, List.length_nil, List.nil_append, if_pos (show 0 + (stepL x).length ≤ 9223372036854775807 by omega)]
      simpa [show wrap64 (1 : Int) = 1 from w64 (by omega) (by omega)] using ih
    · have e : routeL (p ++ [x]) = routeL p ++ [32] ++ stepL x := by
        unfold routeL
        rw [List.map_append]
        exact join_snoc _ _ (by intro hn; exact h0 (by simpa using congrArg List.length hn))
      rw [e, show (p ++ [x]).length = p.length + 1 by simp] at ih
      simp only [if_pos hp, if_pos (show (p.length : Int) > 0 by omega), if_pos (nat_nn p.length), hx, c, bA_size, bA_app, List.length_append, List.length_singleton, if_pos (show (routeL p).length + 1 ≤ 9223372036854775807 by omega), mid_next he (by omega)]
      refine Ev.bind (spec_step hxo) ?_
      simp only [bA_size, bA_app, List.length_append, List.length_singleton, if_pos (show (routeL p).length + 1 + (stepL x).length ≤ 9223372036854775807 by omega)]
      exact ih
theorem impl_routetext {l : List S37} (h : l.length ≤ 1048576) (hr : routeB l = true) : Ev (fun k => impl_RouteText.f k l) (bA (routeL l)) := by
  have hok : ∀ x ∈ l, okStep x = true := by
    simp only [routeB, Bool.and_eq_true, List.all_eq_true] at hr
    exact hr.1
  have hl10 : l.length ≤ 10 := by
    simp only [routeB, Bool.and_eq_true, decide_eq_true_eq] at hr
    exact hr.2.2
  simp only [impl_RouteText.f]
  refine Ev.bind (ev_eq (impl_IsRoute l h) hr) ?_
  have c : (⟨#[44]⟩ : ByteArray) = bA [44] := rfl
  have c2 : (⟨#[32]⟩ : ByteArray) = bA [32] := rfl
  simp only [if_true]
  refine loop_list l (fun p s => Ev (fun k => impl_RouteText.l0 k (p.map fun x => bA (stepL x)) l (l.length : Int) (p.length : Int)) (bA (routeL l))) ?_ ?_
  · refine Ev.step (fun k => by rw [impl_RouteText.l0]) ?_
    have e : (l.map fun x => bA (stepL x)).map (fun x => x.data.toList) = l.map stepL := by
      rw [List.map_map]
      apply List.map_congr_left
      intro x _
      exact bA_list _
    have hb := routeL_len hok
    have e2 : (⟨(Lib.join (l.map stepL) [32]).toArray⟩ : ByteArray) = bA (routeL l) := rfl
    have hb' : (Lib.join (l.map stepL) [32]).length ≤ 140737488355328 := by show (routeL l).length ≤ _; omega
    simp only [if_neg (nlt_self l), strings_Join.f, c2, bA_list, e, List.length_map, if_pos (show l.length ≤ 140737488355328 by omega), if_pos hb', Option.bind_some, e2]
    exact Ev.now _
  · intro p x s he ih
    have hx : rd_T37 l (p.length : Int) = x := by unfold rd_T37; exact mid_get he _
    have hp := mid_lt he
    have hxo : okStep x = true := hok x (by rw [he]; simp)
    obtain ⟨h0, h1, h2⟩ := step_range hxo
    have d0 := dec_len x.f0.toNat x.f0.toNat (Nat.le_refl _)
    have d1 := dec_len x.f1.toNat x.f1.toNat (Nat.le_refl _)
    have d2 := dec_len x.f2.toNat x.f2.toNat (Nat.le_refl _)
    have n0 := impl_dec x.f0.toNat (by omega)
    have n1 := impl_dec x.f1.toNat (by omega)
    have n2 := impl_dec x.f2.toNat (by omega)
    rw [show ((x.f0.toNat : Nat) : Int) = x.f0 by omega] at n0
    rw [show ((x.f1.toNat : Nat) : Int) = x.f1 by omega] at n1
    rw [show ((x.f2.toNat : Nat) : Int) = x.f2 by omega] at n2
    refine Ev.step (fun k => by rw [impl_RouteText.l0]) ?_
    simp only [if_pos hp, if_pos (nat_nn p.length), hx, n0, n1, n2, Option.bind_some, c, bA_size, bA_app, List.length_append, List.length_singleton, List.length_map,
      if_pos (show (Lib.decDigits x.f0.toNat).length + 1 ≤ 9223372036854775807 by omega), if_pos (show (Lib.decDigits x.f0.toNat).length + 1 + (Lib.decDigits x.f1.toNat).length ≤ 9223372036854775807 by omega),
      if_pos (show (Lib.decDigits x.f0.toNat).length + 1 + (Lib.decDigits x.f1.toNat).length + 1 ≤ 9223372036854775807 by omega), if_pos (show (Lib.decDigits x.f0.toNat).length + 1 + (Lib.decDigits x.f1.toNat).length + 1 + (Lib.decDigits x.f2.toNat).length ≤ 9223372036854775807 by omega),
      if_pos (show p.length < 8796093022208 by omega), mid_next he (by omega)]
    simpa [stepL] using ih
theorem both_RouteText (l : List S37) (h : l.length ≤ 1048576) : Ev (fun k => spec_RouteText.f k l) (if routeB l = true then bA (routeL l) else bA []) ∧ Ev (fun k => impl_RouteText.f k l) (if routeB l = true then bA (routeL l) else bA []) := by
  cases hr : routeB l
  · simp only [Bool.false_eq_true, if_false, spec_RouteText.f, impl_RouteText.f]
    exact ⟨Ev.bind (ev_eq (spec_IsRoute l h) hr) (by simp only [Bool.false_eq_true, if_false]; exact Ev.now _), Ev.bind (ev_eq (impl_IsRoute l h) hr) (by simp only [Bool.false_eq_true, if_false]; exact Ev.now _)⟩
  · simp only [if_true]
    exact ⟨spec_routetext h hr, impl_routetext h hr⟩
theorem index_none (c : UInt8) : ∀ t : List UInt8, (∀ x ∈ t, x ≠ c) → Lib.index t [c] = -1 := by
  intro t
  induction t with
  | nil => intro _; rfl
  | cons x t ih =>
    intro h
    have hx : ([c].isPrefixOf (x :: t)) = false := by
      simp [List.isPrefixOf]
      exact fun e => h x (by simp) e.symm
    rw [Lib.index, hx, ih (fun y hy => h y (by simp [hy]))]
    rfl
theorem first_occ (c : UInt8) : ∀ l : List UInt8, (∀ x ∈ l, x ≠ c) ∨ ∃ p t, l = p ++ c :: t ∧ ∀ x ∈ p, x ≠ c := by
  intro l
  induction l with
  | nil => exact .inl (fun x hx => by cases hx)
  | cons x l ih =>
    by_cases h : x = c
    · exact .inr ⟨[], l, by rw [h]; rfl, fun y hy => by cases hy⟩
    · rcases ih with h1 | ⟨p, t, e, hp⟩
      · refine .inl (fun y hy => ?_)
        rcases List.mem_cons.1 hy with rfl | hy
        · exact h
        · exact h1 y hy
      · refine .inr ⟨x :: p, t, by rw [e]; rfl, fun y hy => ?_⟩
        rcases List.mem_cons.1 hy with rfl | hy
        · exact h
        · exact hp y hy
theorem splitB_spl (c : UInt8) : ∀ (n : Nat) (l : List UInt8), l.length ≤ n → Lib.splitB (bA [c]) 0 (Lib.countB (bA l) (bA [c])) (bA l) = (spl c [] l).map bA := by
  have ei : ∀ l : List UInt8, Lib.indexB (bA l) (bA [c]) = Lib.index l [c] := fun l => by simp [Lib.indexB, bA]
  intro n
  induction n with
  | zero =>
    intro l hl
    have : l = [] := List.length_eq_zero_iff.1 (by omega)
    subst this
    rw [Lib.splitB_miss _ _ _ _ (by rw [ei]; rfl)]
    rfl
  | succ n ih =>
    intro l hl
    rcases first_occ c l with h | ⟨p, t, e, hp⟩
    · rw [Lib.splitB_miss _ _ _ _ (by rw [ei]; exact index_none c l h), spl_end c l [] h]
      rfl
    · have hi : Lib.indexB (bA l) (bA [c]) = (p.length : Int) := by rw [ei, e]; exact cut_at c p t hp
      have h1 : 1 ≤ (bA [c]).size := by simp [bA_size]
      have hc := Lib.countB_hit (bA l) (bA [c]) p.length h1 hi
      have x1 : (bA l).extract 0 (p.length + 0) = bA p := by
        apply ByteArray.ext
        rw [← Array.toList_inj]
        simp [bA, e]
      have x2 : (bA l).extract (p.length + (bA [c]).size) (bA l).size = bA t := by
        apply ByteArray.ext
        rw [← Array.toList_inj]
        rw [bA_size, bA_size]
        simp only [e, bA, ByteArray.data_extract, Array.toList_extract, List.length_append, List.length_cons, List.length_nil]
        rw [List.extract_eq_take_drop, List.drop_append, List.drop_eq_nil_of_le (by omega), List.nil_append, show p.length + (0 + 1) - p.length = 1 by omega, List.drop_succ_cons, List.drop_zero]
        exact List.take_of_length_le (by omega)
      rw [hc, Nat.add_comm 1, Lib.splitB_hit _ _ _ _ p.length hi, x1, x2, ih t (by rw [e] at hl; simp at hl; omega), e, spl_one c p [] t hp]
      rfl
theorem split_ok (l : List UInt8) (c : UInt8) (h : l.length ≤ 5000000) : strings_Split.f (bA l) (bA [c]) = some ((spl c [] l).map bA) := by
  have h1 : 1 ≤ (bA [c]).size := by simp [bA_size]
  simp only [strings_Split.f, bA_size, if_pos (show l.length < 4294967281 by omega), List.length_singleton, Nat.le_refl, if_true]
  rw [splitB_spl c l.length l (Nat.le_refl _)]
theorem stepL_eq (x : S37) : stepL x = Lib.join [Lib.decDigits x.f0.toNat, Lib.decDigits x.f1.toNat, Lib.decDigits x.f2.toNat] [44] := by
  rw [Lib.join_cons]
  simp [Lib.joinTail, stepL]
theorem stepL_spl (x : S37) : spl 44 [] (stepL x) = [Lib.decDigits x.f0.toNat, Lib.decDigits x.f1.toNat, Lib.decDigits x.f2.toNat] := by
  rw [stepL_eq]
  refine spl_of_join 44 _ _ (fun d hd y hy e => ?_)
  have h : isD y := by
    simp only [List.mem_cons, List.not_mem_nil, or_false] at hd
    rcases hd with rfl | rfl | rfl <;> exact dec_isD' hy
  rw [e] at h
  exact absurd h.1 (by decide)
theorem stepL_no32 (x : S37) : ∀ y ∈ stepL x, y ≠ 32 := by
  intro y hy e
  simp only [stepL, List.mem_append, List.mem_singleton] at hy
  have h : isD y ∨ y = 44 := by
    rcases hy with (((hy | hy) | hy) | hy) | hy
    · exact .inl (dec_isD' hy)
    · exact .inr hy
    · exact .inl (dec_isD' hy)
    · exact .inr hy
    · exact .inl (dec_isD' hy)
  rw [e] at h
  rcases h with h | h
  · exact absurd h.1 (by decide)
  · exact absurd h (by decide)
theorem step_nums {x : S37} (h : okStep x = true) : ∃ us : List Nat, us.length = 3 ∧ spl 44 [] (stepL x) = us.map Lib.decDigits ∧ (∀ d ∈ spl 44 [] (stepL x), d.length ≤ 10) ∧ us.map (fun u : Nat => (u : Int)) = [x.f0, x.f1, x.f2] := by
  obtain ⟨h0, h1, h2⟩ := step_range h
  refine ⟨[x.f0.toNat, x.f1.toNat, x.f2.toNat], rfl, stepL_spl x, ?_, ?_⟩
  · intro d hd
    rw [stepL_spl] at hd
    simp only [List.mem_cons, List.not_mem_nil, or_false] at hd
    rcases hd with rfl | rfl | rfl <;> exact dec_le 10 _ (by omega) (by decide)
  · simp only [List.map_cons, List.map_nil, List.cons.injEq, and_true]
    omega
theorem routeB_ok {l : List S37} (h : routeB l = true) : (∀ x ∈ l, okStep x = true) ∧ 1 ≤ l.length ∧ l.length ≤ 10 := by
  simpa only [routeB, Bool.and_eq_true, List.all_eq_true, decide_eq_true_eq] using h
theorem spec_IsRoute2 (l : List S37) (h : l.length ≤ 9000000) : Ev (fun k => spec_IsRoute.f k l) (routeB l) := by
  refine loop_list l (fun p s => Ev (fun k => spec_IsRoute.l0 k l (p.length : Int)) (s.all okStep && (decide (1 ≤ l.length) && decide (l.length ≤ 10)))) ?_ ?_
  · refine Ev.step (fun k => by rw [spec_IsRoute.l0]) ?_
    simp only [if_neg (nlt_self l), List.all_nil, Bool.true_and]
    by_cases h1 : (l.length : Int) ≥ 1
    · simp only [if_pos h1]
      exact ev_eq (Ev.now _) (by rw [decide_eq_true (show 1 ≤ l.length by omega), Bool.true_and]; exact decide_eq_decide.2 (by omega))
    · simp only [if_neg h1]
      exact ev_eq (Ev.now _) (by rw [decide_eq_false (show ¬ 1 ≤ l.length by omega), Bool.false_and])
  · intro p x s he ih
    refine Ev.step (fun k => by rw [spec_IsRoute.l0]) ?_
    simp only [if_pos (mid_lt he), if_pos (nat_nn p.length), mid_next he (by omega), rd_T37, mid_get he, spec_IsStep, Option.bind_some, List.all_cons]
    cases h0 : stepB x.f0 x.f1 x.f2 <;> simp [okStep, h0] <;> first | exact Ev.now _ | simpa [mid_next he (by omega)] using ih
theorem three_of {l : List Int} (h : (l.length : Int) = 3) : ∃ a b c, l = [a, b, c] := by
  cases l with
  | nil => simp at h
  | cons a t =>
    cases t with
    | nil => simp at h
    | cons b t =>
      cases t with
      | nil => simp at h
      | cons c t =>
        cases t with
        | nil => exact ⟨a, b, c, rfl⟩
        | cons d t => simp at h; omega
theorem rd_word (ws p s : List (List UInt8)) (w : List UInt8) (h : ws = p ++ w :: s) : rdOf ByteArray.empty (ws.map bA) (p.length : Int) = bA w := by
  unfold rdOf
  rw [h]
  simp
theorem spec_routeloop (ws : List (List UInt8)) (hw : ws.length ≤ 3000000) (hd : ∀ w ∈ ws, w.length ≤ 3000000) : ∀ (s p : List (List UInt8)) (acc : List S37), ws = p ++ s → acc.length = p.length → ∃ r : List S37 × Bool, Ev (fun k => spec_ReadRoute.l0 k (ws.map bA) acc (p.length : Int)) r ∧ (r = ([], false) ∨ ∃ l, routeB (acc ++ l) = true ∧ s = l.map stepL ∧ r = (acc ++ l, true)) ∧ (∀ l, s = l.map stepL → routeB (acc ++ l) = true → r = (acc ++ l, true)) := by
  have lm : ((ws.map bA).length : Int) = (ws.length : Int) := by simp
  intro s
  induction s with
  | nil =>
    intro p acc h hacc
    rw [List.append_nil] at h
    subst h
    have hal : acc.length ≤ 9000000 := by omega
    have hb := spec_IsRoute2 acc hal
    cases hr : routeB acc <;> rw [hr] at hb
    · refine ⟨([], false), Ev.step (fun k => by rw [spec_ReadRoute.l0]) ?_, .inl rfl, fun l hl hrl => ?_⟩
      · simp only [lm, if_neg (nlt_self ws)]
        refine Ev.bind hb ?_
        simp only [Bool.false_eq_true, if_false]
        exact Ev.now _
      · have : l = [] := List.map_eq_nil_iff.1 hl.symm
        subst this
        rw [List.append_nil, hr] at hrl
        cases hrl
    · refine ⟨(acc, true), Ev.step (fun k => by rw [spec_ReadRoute.l0]) ?_, .inr ⟨[], by rw [List.append_nil]; exact hr, rfl, by rw [List.append_nil]⟩, fun l hl hrl => ?_⟩
      · simp only [lm, if_neg (nlt_self ws)]
        refine Ev.bind hb ?_
        simp only [if_true]
        exact Ev.now _
      · have : l = [] := List.map_eq_nil_iff.1 hl.symm
        subst this
        rw [List.append_nil]
  | cons w s ih =>
    intro p acc h hacc
    have hp := mid_lt h
    have hwl := hd w (by rw [h]; simp)
    have hsp := spec_split w 44 (by omega)
    have hsl := spl_length 44 w []
    obtain ⟨q, hq, n1, n2⟩ := spec_numbers (spl 44 [] w) (by omega)
    have bad : (∀ x : S37, okStep x = true → w ≠ stepL x) → (∀ l, w :: s = l.map stepL → routeB (acc ++ l) = true → (([], false) : List S37 × Bool) = (acc ++ l, true)) := by
      intro hb l hl hrl
      cases l with
      | nil => simp at hl
      | cons x l =>
        simp only [List.map_cons, List.cons.injEq] at hl
        exact absurd hl.1 (hb x ((routeB_ok hrl).1 x (by simp)))
    have conv : ∀ x : S37, okStep x = true → w = stepL x → q = ([x.f0, x.f1, x.f2], true) := by
      intro x hx e
      obtain ⟨us, u1, u2, u3, u4⟩ := step_nums hx
      rw [e] at n2
      rw [n2 us u2 u3, u4]
    by_cases c1 : q.2 = true
    · by_cases c2 : (q.1.length : Int) = 3
      · obtain ⟨a, b, c, hq1⟩ := three_of c2
        obtain ⟨r, hr, r1, r2⟩ := ih (p ++ [w]) (acc ++ [⟨a, b, c⟩]) (by rw [h]; simp) (by simp [hacc])
        have ra : rd [a, b, c] 0 = a := rfl
        have rb : rd [a, b, c] 1 = b := rfl
        have rc : rd [a, b, c] 2 = c := rfl
        refine ⟨r, Ev.step (fun k => by rw [spec_ReadRoute.l0]) ?_, ?_, fun l hl hrl => ?_⟩
        · simp only [lm, if_pos hp, if_pos (nat_nn p.length), rd_word ws p s w h]
          refine Ev.bind hsp ?_
          refine Ev.bind hq ?_
          simp only [if_pos c1, hq1, ra, rb, rc, if_pos (show (([a, b, c] : List Int).length : Int) = 3 by simp), if_pos (show (0 : Int) < (([a, b, c] : List Int).length : Int) by simp), if_pos (show (1 : Int) < (([a, b, c] : List Int).length : Int) by simp), if_pos (show (2 : Int) < (([a, b, c] : List Int).length : Int) by simp), if_pos (show acc.length < 5864062014805 by omega), mid_next h (by omega)]
          exact hr
        · rcases r1 with r1 | ⟨l, l1, l2, l3⟩
          · exact .inl r1
          · rw [List.append_assoc] at l1 l3
            refine .inr ⟨⟨a, b, c⟩ :: l, l1, ?_, l3⟩
            have hx : okStep (⟨a, b, c⟩ : S37) = true := (routeB_ok l1).1 _ (by simp)
            obtain ⟨h0, h1, h2⟩ := step_range hx
            have hns := n1 c1
            rw [hq1] at hns
            have hj := spl_join 44 w []
            rw [List.nil_append] at hj
            have hw1 : w = stepL ⟨a, b, c⟩ := by
              cases hs : spl 44 [] w with
              | nil => exact absurd hs (spl_ne _ _ _)
              | cons d1 t1 =>
                rw [hs] at hns hj
                cases ht1 : t1 with
                | nil => rw [ht1] at hns; exact absurd hns.2 (by simp [Nums])
                | cons d2 t2 =>
                  rw [ht1] at hns hj
                  cases ht2 : t2 with
                  | nil => rw [ht2] at hns; exact absurd hns.2.2 (by simp [Nums])
                  | cons d3 t3 =>
                    rw [ht2] at hns hj
                    cases ht3 : t3 with
                    | cons d4 t4 => rw [ht3] at hns; exact absurd hns.2.2.2 (by simp [Nums])
                    | nil =>
                      rw [ht3] at hns hj
                      obtain ⟨u, e1, e2, _⟩ := hns.1 h0.1
                      obtain ⟨v, e3, e4, _⟩ := hns.2.1 h1.1
                      obtain ⟨z, e5, e6, _⟩ := hns.2.2.1 h2.1
                      rw [stepL_eq, ← hj, e2, e4, e6, e1, e3, e5]
                      simp
            rw [List.map_cons, ← hw1, l2]
        · cases l with
          | nil => simp at hl
          | cons x l =>
            simp only [List.map_cons, List.cons.injEq] at hl
            have hx := (routeB_ok hrl).1 x (by simp)
            have e := conv x hx hl.1
            rw [e] at hq1
            simp only [List.cons.injEq, and_true] at hq1
            have ex : (⟨a, b, c⟩ : S37) = x := by rw [← hq1.1, ← hq1.2.1, ← hq1.2.2]
            have := r2 l hl.2 (by rw [ex, List.append_assoc]; exact hrl)
            rw [this, ex]
            simp
      · refine ⟨([], false), Ev.step (fun k => by rw [spec_ReadRoute.l0]) ?_, .inl rfl, bad (fun x hx e => ?_)⟩
        · simp only [lm, if_pos hp, if_pos (nat_nn p.length), rd_word ws p s w h]
          refine Ev.bind hsp ?_
          refine Ev.bind hq ?_
          simp only [if_pos c1, if_neg c2]
          exact Ev.now _
        · rw [conv x hx e] at c2
          exact c2 rfl
    · refine ⟨([], false), Ev.step (fun k => by rw [spec_ReadRoute.l0]) ?_, .inl rfl, bad (fun x hx e => ?_)⟩
      · simp only [lm, if_pos hp, if_pos (nat_nn p.length), rd_word ws p s w h]
        refine Ev.bind hsp ?_
        refine Ev.bind hq ?_
        simp only [if_neg c1]
        exact Ev.now _
      · rw [conv x hx e] at c1
        exact c1 rfl
theorem routeL_spl {l : List S37} (h : 1 ≤ l.length) : spl 32 [] (routeL l) = l.map stepL := by
  cases l with
  | nil => simp at h
  | cons x l =>
    unfold routeL
    rw [List.map_cons]
    refine spl_of_join 32 _ _ (fun d hd y hy => ?_)
    rw [← List.map_cons] at hd
    obtain ⟨z, _, rfl⟩ := List.mem_map.1 hd
    exact stepL_no32 z y hy
theorem spl_le (c : UInt8) : ∀ (t q : List UInt8), ∀ d ∈ spl c q t, d.length ≤ q.length + t.length := by
  intro t
  induction t with
  | nil =>
    intro q d hd
    simp only [spl, List.mem_singleton] at hd
    subst hd
    simp
  | cons x t ih =>
    intro q d hd
    simp only [spl] at hd
    split at hd
    · rcases List.mem_cons.1 hd with rfl | hd
      · simp
      · have := ih [] d hd; simp at this ⊢; omega
    · have := ih _ d hd; simp at this ⊢; omega
theorem spec_read_route (s : List UInt8) (hs : s.length ≤ 2000000) : ∃ r : List S37 × Bool, Ev (fun k => spec_ReadRoute.f k (bA s)) r ∧ (r = ([], false) ∨ ∃ l, routeB l = true ∧ s = routeL l ∧ r = (l, true)) ∧ (∀ l, routeB l = true → s = routeL l → r = (l, true)) := by
  simp only [spec_ReadRoute.f]
  have h1 := spec_split s 32 (by omega)
  have hl := spl_length 32 s []
  have hj := spl_join 32 s []
  obtain ⟨r, hr, r1, r2⟩ := spec_routeloop (spl 32 [] s) (by omega) (fun w hw => by have := spl_le 32 s [] w hw; simp at this; omega) (spl 32 [] s) [] [] rfl rfl
  refine ⟨r, Ev.bind h1 hr, ?_, fun l hl he => ?_⟩
  · rcases r1 with r1 | ⟨l, l1, l2, l3⟩
    · exact .inl r1
    · refine .inr ⟨l, l1, ?_, l3⟩
      rw [l2, List.nil_append] at hj
      exact hj.symm
  · have := r2 l (by rw [he]; exact routeL_spl (routeB_ok hl).2.1) hl
    simpa using this
theorem impl_word (x0 : ByteArray) (x4 : List S37) (ws : List ByteArray) (n i : Int) (parts : List (List UInt8)) (hn : parts.length ≤ 5000000) (hd : ∀ d ∈ parts, d.length ≤ 5000000) (h4 : x4.length ≤ 10) :
    ∀ (s p : List (List UInt8)) (nums : List Int), parts = p ++ s → nums.length ≤ 3 →
      (Ev (fun k => impl_ReadRoute.l1 k x0 x4 nums ws n i (parts.map bA) (parts.length : Int) (p.length : Int)) ([], false) ∧ (∀ us : List Nat, s = us.map Lib.decDigits → (∀ d ∈ s, d.length ≤ 10) → nums.length + us.length ≠ 3)) ∨
      (∃ a b c, (x4.length ≠ 10 → ∀ R, Ev (fun k => impl_ReadRoute.l0 k x0 (x4 ++ [⟨a, b, c⟩]) ws n (wrap64 (i + 1))) R → Ev (fun k => impl_ReadRoute.l1 k x0 x4 nums ws n i (parts.map bA) (parts.length : Int) (p.length : Int)) R) ∧ (x4.length = 10 → Ev (fun k => impl_ReadRoute.l1 k x0 x4 nums ws n i (parts.map bA) (parts.length : Int) (p.length : Int)) ([], false)) ∧ (∀ us : List Nat, s = us.map Lib.decDigits → (∀ d ∈ s, d.length ≤ 10) → nums ++ us.map (fun u : Nat => (u : Int)) = [a, b, c])) := by
  have lm : ((parts.map bA).length : Int) = (parts.length : Int) := by simp
  intro s
  induction s with
  | nil =>
    intro p nums h hnl
    rw [List.append_nil] at h
    subst h
    by_cases c1 : (nums.length : Int) = 3
    · obtain ⟨a, b, c, hnum⟩ := three_of c1
      have ra : rd [a, b, c] 0 = a := rfl
      have rb : rd [a, b, c] 1 = b := rfl
      have rc : rd [a, b, c] 2 = c := rfl
      refine .inr ⟨a, b, c, fun hx R hR => ?_, fun hx => ?_, fun us hus _ => ?_⟩
      · refine Ev.step (fun k => by rw [impl_ReadRoute.l1]) ?_
        simp only [if_neg (nlt_self parts), hnum, ra, rb, rc, if_pos (show (([a, b, c] : List Int).length : Int) = 3 by simp), if_neg (show ¬ (x4.length : Int) = 10 by omega), if_pos (show (0 : Int) < (([a, b, c] : List Int).length : Int) by simp), if_pos (show (1 : Int) < (([a, b, c] : List Int).length : Int) by simp), if_pos (show (2 : Int) < (([a, b, c] : List Int).length : Int) by simp), if_pos (show x4.length < 5864062014805 by omega)]
        exact hR
      · refine Ev.step (fun k => by rw [impl_ReadRoute.l1]) ?_
        simp only [if_neg (nlt_self parts), if_pos c1, if_pos (show (x4.length : Int) = 10 by omega)]
        exact Ev.now _
      · have : us = [] := List.map_eq_nil_iff.1 hus.symm
        subst this
        simpa using hnum
    · refine .inl ⟨?_, fun us hus _ => ?_⟩
      · refine Ev.step (fun k => by rw [impl_ReadRoute.l1]) ?_
        simp only [if_neg (nlt_self parts), if_neg c1]
        exact Ev.now _
      · have : us = [] := List.map_eq_nil_iff.1 hus.symm
        subst this
        simp
        omega
  | cons d s ih =>
    intro p nums h hnl
    have hp := mid_lt h
    have hrd := rd_word parts p s d h
    obtain ⟨r, hr, r1, r2, _⟩ := impl_read d (hd d (by rw [h]; simp))
    by_cases c1 : r.2 = true
    · by_cases c2 : (nums.length : Int) = 3
      · refine .inl ⟨?_, fun us hus _ => ?_⟩
        · refine Ev.step (fun k => by rw [impl_ReadRoute.l1]) ?_
          simp only [lm, if_pos hp, if_pos (nat_nn p.length), hrd, hr, Option.bind_some, if_pos c1, if_pos c2]
          exact Ev.now _
        · cases us with
          | nil => simp at hus
          | cons u us => simp; omega
      · have st : ∀ R, Ev (fun k => impl_ReadRoute.l1 k x0 x4 (nums ++ [r.1]) ws n i (parts.map bA) (parts.length : Int) ((p ++ [d]).length : Int)) R → Ev (fun k => impl_ReadRoute.l1 k x0 x4 nums ws n i (parts.map bA) (parts.length : Int) (p.length : Int)) R := by
          intro R hR
          refine Ev.step (fun k => by rw [impl_ReadRoute.l1]) ?_
          simp only [lm, if_pos hp, if_pos (nat_nn p.length), hrd, hr, Option.bind_some, if_pos c1, if_neg c2, if_pos (show nums.length < 17592186044416 by omega), mid_next h (by omega)]
          exact hR
        rcases ih (p ++ [d]) (nums ++ [r.1]) (by rw [h]; simp) (by simp; omega) with ⟨e1, e2⟩ | ⟨a, b, c, e1, e2, e3⟩
        · refine .inl ⟨st _ e1, fun us hus hl => ?_⟩
          cases us with
          | nil => simp at hus
          | cons u us =>
            simp only [List.map_cons, List.cons.injEq] at hus
            have := e2 us hus.2 (fun x hx => hl x (by simp [hx]))
            simp at this ⊢
            omega
        · refine .inr ⟨a, b, c, fun hx R hR => st R (e1 hx R hR), fun hx => st _ (e2 hx), fun us hus hl => ?_⟩
          cases us with
          | nil => simp at hus
          | cons u us =>
            simp only [List.map_cons, List.cons.injEq] at hus
            have h1 := e3 us hus.2 (fun x hx => hl x (by simp [hx]))
            have h2 := r2 u hus.1 (hl d (by simp))
            rw [h2] at h1
            simpa using h1
    · refine .inl ⟨?_, fun us hus hl => ?_⟩
      · refine Ev.step (fun k => by rw [impl_ReadRoute.l1]) ?_
        simp only [lm, if_pos hp, if_pos (nat_nn p.length), hrd, hr, Option.bind_some, if_neg c1]
        exact Ev.now _
      · cases us with
        | nil => simp at hus
        | cons u us =>
          simp only [List.map_cons, List.cons.injEq] at hus
          rw [r2 u hus.1 (hl d (by simp))] at c1
          exact absurd rfl c1
theorem impl_routeloop (s0 : List UInt8) (ws : List (List UInt8)) (hw : ws.length ≤ 3000000) (hd : ∀ w ∈ ws, w.length ≤ 3000000) : ∀ (s p : List (List UInt8)) (acc : List S37), ws = p ++ s → acc.length ≤ 10 → ∃ r : List S37 × Bool, Ev (fun k => impl_ReadRoute.l0 k (bA s0) acc (ws.map bA) (ws.length : Int) (p.length : Int)) r ∧ (r = ([], false) ∨ ∃ l, routeB l = true ∧ s0 = routeL l ∧ r = (l, true)) ∧ (∀ l, s = l.map stepL → routeB (acc ++ l) = true → s0 = routeL (acc ++ l) → r = (acc ++ l, true)) := by
  have lm : ((ws.map bA).length : Int) = (ws.length : Int) := by simp
  have c44 : (⟨#[44]⟩ : ByteArray) = bA [44] := rfl
  intro s
  induction s with
  | nil =>
    intro p acc h hacc
    rw [List.append_nil] at h
    subst h
    have hb := impl_IsRoute acc (by omega)
    cases hr : routeB acc <;> rw [hr] at hb
    · refine ⟨([], false), Ev.step (fun k => by rw [impl_ReadRoute.l0]) ?_, .inl rfl, fun l hl hrl _ => ?_⟩
      · simp only [if_neg (nlt_self ws)]
        refine Ev.bind hb ?_
        simp only [Bool.false_eq_true, if_false]
        exact Ev.now _
      · have : l = [] := List.map_eq_nil_iff.1 hl.symm
        subst this
        rw [List.append_nil, hr] at hrl
        cases hrl
    · have ht := impl_routetext (by omega) hr
      by_cases he : routeL acc = s0
      · refine ⟨(acc, true), Ev.step (fun k => by rw [impl_ReadRoute.l0]) ?_, .inr ⟨acc, hr, he.symm, rfl⟩, fun l hl hrl _ => ?_⟩
        · simp only [if_neg (nlt_self ws)]
          refine Ev.bind hb ?_
          simp only [if_true]
          refine Ev.bind ht ?_
          simp only [toList_bA, if_pos he]
          exact Ev.now _
        · have : l = [] := List.map_eq_nil_iff.1 hl.symm
          subst this
          rw [List.append_nil]
      · refine ⟨([], false), Ev.step (fun k => by rw [impl_ReadRoute.l0]) ?_, .inl rfl, fun l hl hrl hs => ?_⟩
        · simp only [if_neg (nlt_self ws)]
          refine Ev.bind hb ?_
          simp only [if_true]
          refine Ev.bind ht ?_
          simp only [toList_bA, if_neg he]
          exact Ev.now _
        · have : l = [] := List.map_eq_nil_iff.1 hl.symm
          subst this
          rw [List.append_nil] at hs
          exact absurd hs.symm he
  | cons w s ih =>
    intro p acc h hacc
    have hp := mid_lt h
    have hwl := hd w (by rw [h]; simp)
    have hsl := spl_length 44 w []
    have hrd := rd_word ws p s w h
    have st : ∀ R, Ev (fun k => impl_ReadRoute.l1 k (bA s0) acc [] (ws.map bA) (ws.length : Int) (p.length : Int) ((spl 44 [] w).map bA) ((spl 44 [] w).length : Int) 0) R → Ev (fun k => impl_ReadRoute.l0 k (bA s0) acc (ws.map bA) (ws.length : Int) (p.length : Int)) R := by
      intro R hR
      refine Ev.step (fun k => by rw [impl_ReadRoute.l0]) ?_
      simp only [lm, if_pos hp, if_pos (nat_nn p.length), hrd, c44, split_ok w 44 (by omega), Option.bind_some, List.length_map]
      exact hR
    rcases impl_word (bA s0) acc (ws.map bA) (ws.length : Int) (p.length : Int) (spl 44 [] w) (by omega) (fun d hd' => by have := spl_le 44 w [] d hd'; simp at this; omega) hacc (spl 44 [] w) [] [] rfl (by simp) with ⟨e1, e2⟩ | ⟨a, b, c, e1, e2, e3⟩
    · refine ⟨([], false), st _ e1, .inl rfl, fun l hl hrl _ => ?_⟩
      cases l with
      | nil => simp at hl
      | cons x l =>
        simp only [List.map_cons, List.cons.injEq] at hl
        obtain ⟨us, u1, u2, u3, u4⟩ := step_nums ((routeB_ok hrl).1 x (by simp))
        rw [← hl.1] at u2 u3
        exact absurd (by simpa using u1) (e2 us u2 u3)
    · by_cases h10 : acc.length = 10
      · refine ⟨([], false), st _ (e2 h10), .inl rfl, fun l hl hrl _ => ?_⟩
        cases l with
        | nil => simp at hl
        | cons x l =>
          have := (routeB_ok hrl).2.2
          simp at this
          omega
      · obtain ⟨r, hr, r1, r2⟩ := ih (p ++ [w]) (acc ++ [⟨a, b, c⟩]) (by rw [h]; simp) (by simp; omega)
        rw [← mid_next h (by omega)] at hr
        refine ⟨r, st _ (e1 h10 r hr), r1, fun l hl hrl hs => ?_⟩
        cases l with
        | nil => simp at hl
        | cons x l =>
          simp only [List.map_cons, List.cons.injEq] at hl
          obtain ⟨us, u1, u2, u3, u4⟩ := step_nums ((routeB_ok hrl).1 x (by simp))
          rw [← hl.1] at u2 u3
          have e := e3 us u2 u3
          rw [u4] at e
          simp only [List.nil_append, List.cons.injEq, and_true] at e
          have ex : (⟨a, b, c⟩ : S37) = x := by rw [← e.1, ← e.2.1, ← e.2.2]
          have := r2 l hl.2 (by rw [ex, List.append_assoc]; exact hrl) (by rw [ex, List.append_assoc]; exact hs)
          rw [this, ex]
          simp
theorem impl_read_route (s : List UInt8) (hs : s.length ≤ 2000000) : ∃ r : List S37 × Bool, Ev (fun k => impl_ReadRoute.f k (bA s)) r ∧ (r = ([], false) ∨ ∃ l, routeB l = true ∧ s = routeL l ∧ r = (l, true)) ∧ (∀ l, routeB l = true → s = routeL l → r = (l, true)) := by
  have c32 : (⟨#[32]⟩ : ByteArray) = bA [32] := rfl
  have hl := spl_length 32 s []
  obtain ⟨r, hr, r1, r2⟩ := impl_routeloop s (spl 32 [] s) (by omega) (fun w hw => by have := spl_le 32 s [] w hw; simp at this; omega) (spl 32 [] s) [] [] rfl (by simp)
  refine ⟨r, ?_, r1, fun l hl he => ?_⟩
  · simp only [impl_ReadRoute.f, c32, split_ok s 32 (by omega), Option.bind_some, List.length_map]
    exact hr
  · have := r2 l (by rw [he]; exact routeL_spl (routeB_ok hl).2.1) hl he
    simpa using this
theorem both_ReadRoute (s : List UInt8) (hs : s.length ≤ 2000000) : ∃ r : List S37 × Bool, Ev (fun k => spec_ReadRoute.f k (bA s)) r ∧ Ev (fun k => impl_ReadRoute.f k (bA s)) r ∧ (r = ([], false) ∨ ∃ l, routeB l = true ∧ s = routeL l ∧ r = (l, true)) ∧ (∀ l, routeB l = true → s = routeL l → r = (l, true)) ∧ r.1.length ≤ 10 := by
  obtain ⟨r, hr, r1, r2⟩ := spec_read_route s hs
  obtain ⟨q, hq, q1, q2⟩ := impl_read_route s hs
  have : q = r := by
    rcases q1 with e | ⟨l, h, e, e2⟩
    · rcases r1 with f | ⟨l, h, f, f2⟩
      · rw [e, f]
      · rw [q2 l h f, f2]
    · rw [e2, r2 l h e]
  subst this
  refine ⟨q, hr, hq, r1, r2, ?_⟩
  rcases r1 with e | ⟨l, h, _, e⟩
  · rw [e]; simp
  · rw [e]; exact (routeB_ok h).2.2
theorem checkRoute (l : List S37) (n : Int) (h : l.length ≤ 1048576) : Ev (fun k => impl_checkRoute.f k l n) (codeOf (routeB l) n) := by
  simp only [impl_checkRoute.f, impl_isRun.f, inRange, Option.bind_some]
  refine Ev.bind (impl_IsRoute l h) ?_
  cases routeB l <;> cases hn : inR n 0 1000000 <;> simp [codeOf, hn] <;> exact Ev.now _
/-- What stands behind the test of a route, on both sides. -/
theorem spec_route {α : Type} (l : List S37) (n : Int) (h : l.length ≤ 1048576) (g : Nat → Option α) (e : Int → α) (r : α) (h0 : codeOf (routeB l) n = 0 → Ev g r) (h1 : codeOf (routeB l) n ≠ 0 → r = e (codeOf (routeB l) n)) :
    Ev (fun k => (spec_IsRoute.f k l).bind fun t => (spec_l19Code.f t n).bind fun c => if c = 0 then g k else some (e c)) r := by
  refine Ev.bind (spec_IsRoute l h) ?_
  simp only [l19Code, Option.bind_some]
  by_cases hc : codeOf (routeB l) n = 0
  · simp only [if_pos hc]
    exact h0 hc
  · simp only [if_neg hc]
    exact ev_eq (Ev.now _) (h1 hc).symm
theorem impl_route {α : Type} (l : List S37) (n : Int) (h : l.length ≤ 1048576) (g : Nat → Option α) (e : Int → α) (r : α) (h0 : codeOf (routeB l) n = 0 → Ev g r) (h1 : codeOf (routeB l) n ≠ 0 → r = e (codeOf (routeB l) n)) :
    Ev (fun k => (impl_checkRoute.f k l n).bind fun c => if c = 0 then g k else some (e c)) r := by
  refine Ev.bind (checkRoute l n h) ?_
  by_cases hc : codeOf (routeB l) n = 0
  · simp only [if_pos hc]
    exact h0 hc
  · simp only [if_neg hc]
    exact ev_eq (Ev.now _) (h1 hc).symm
theorem both_route {α : Type} (l : List S37) (n : Int) (h : l.length ≤ 1048576) (g g' : Nat → Option α) (e : Int → α) (hg : codeOf (routeB l) n = 0 → ∃ r, Ev g r ∧ Ev g' r) :
    ∃ r, Ev (fun k => (spec_IsRoute.f k l).bind fun t => (spec_l19Code.f t n).bind fun c => if c = 0 then g k else some (e c)) r ∧ Ev (fun k => (impl_checkRoute.f k l n).bind fun c => if c = 0 then g' k else some (e c)) r := by
  by_cases hc : codeOf (routeB l) n = 0
  · obtain ⟨r, h1, h2⟩ := hg hc
    exact ⟨r, spec_route l n h g e r (fun _ => h1) (fun h => absurd hc h), impl_route l n h g' e r (fun _ => h2) (fun h => absurd hc h)⟩
  · exact ⟨_, spec_route l n h g e _ (fun h => absurd h hc) (fun _ => rfl), impl_route l n h g' e _ (fun h => absurd h hc) (fun _ => rfl)⟩
/-- A source that stands somewhere in its code. -/
def Src (c : List Int) (a s : Int) : Prop := (∀ x ∈ c, 0 ≤ x ∧ x ≤ 255) ∧ c.length ≤ 4096 ∧ 0 ≤ a ∧ a ≤ (c.length : Int) ∧ 0 ≤ s ∧ s < 2147483647
theorem rd_byte {c : List Int} (h : ∀ x ∈ c, 0 ≤ x ∧ x ≤ 255) (i : Int) : 0 ≤ rd c i ∧ rd c i ≤ 255 := by
  unfold rd
  rw [List.getD_eq_getElem?_getD]
  cases e : c[i.toNat]? with
  | none => simp
  | some v => exact h v (List.mem_of_getElem? e)
theorem tmod_range {x n : Int} (hx : 0 ≤ x) (hn : 1 < n) : 0 ≤ Int.tmod x n ∧ Int.tmod x n < n := by
  rw [Int.tmod_eq_emod_of_nonneg hx]
  exact ⟨Int.emod_nonneg _ (by omega), Int.emod_lt_of_pos _ (by omega)⟩
theorem seed_step {s : Int} (h0 : 0 ≤ s) (h1 : s < 2147483647) : 0 ≤ Int.tmod (wrap64 ((wrap64 (s * 48271)) + 61)) 2147483647 ∧ Int.tmod (wrap64 ((wrap64 (s * 48271)) + 61)) 2147483647 < 2147483647 := by
  rw [w64 (x := s * 48271) (by omega) (by omega), w64 (by omega) (by omega)]
  exact tmod_range (by omega) (by omega)
theorem draw_next {c : List Int} {a s : Int} (h : Src c a s) (n : Int) : ∃ v a' s', spec_l01Next.f c a s n = some (v, a', s') ∧ Src c a' s' ∧ (n ≤ 1 → v = 0) ∧ (1 < n → 0 ≤ v ∧ v < n) := by
  obtain ⟨hb, hl, ha, ha1, hs, hs1⟩ := h
  by_cases hn : n ≤ 1
  · exact ⟨0, a, s, by simp only [spec_l01Next.f, if_pos hn], ⟨hb, hl, ha, ha1, hs, hs1⟩, fun _ => rfl, fun h => by omega⟩
  · have hn0 : ¬ n = 0 := by omega
    obtain ⟨k0, k1⟩ := seed_step hs hs1
    generalize hk : Int.tmod (wrap64 ((wrap64 (s * 48271)) + 61)) 2147483647 = t at k0 k1
    have hx : Int.tdiv t 31 = t / 31 := Int.tdiv_eq_ediv_of_nonneg k0
    have hx1 : wrap64 (t / 31) = t / 31 := w64 (by omega) (by omega)
    by_cases hlt : a < (c.length : Int)
    · have e1 : wrap64 (a + 1) = a + 1 := w64 (by omega) (by omega)
      have e2 : wrap64 (a + 1 - 1) = a := by rw [show a + 1 - 1 = a by omega]; exact w64 (by omega) (by omega)
      obtain ⟨b0, b1⟩ := rd_byte hb a
      have e3 : wrap64 (rd c a) = rd c a := w64 (by omega) (by omega)
      have e4 : wrap64 (t / 31 + rd c a) = t / 31 + rd c a := w64 (by omega) (by omega)
      have hS : Src c (a + 1) t := ⟨hb, hl, by omega, by omega, k0, k1⟩
      by_cases h256 : n ≤ 256
      · by_cases he : Int.tmod (a + 1) 2 = 0
        · refine ⟨Int.tmod (rd c a) n, a + 1, t, ?_, hS, fun h => by omega, fun h => tmod_range b0 h⟩
          simp only [spec_l01Next.f, if_neg hn, if_pos hlt, if_pos ha, if_pos h256, e1, e2, e3, hk, if_pos he, if_neg hn0]
        · refine ⟨Int.tmod (t / 31 + rd c a) n, a + 1, t, ?_, hS, fun h => by omega, fun h => tmod_range (by omega) h⟩
          simp only [spec_l01Next.f, if_neg hn, if_pos hlt, if_pos ha, if_pos h256, e1, e2, e3, e4, hk, hx, hx1, if_neg he, if_neg hn0]
      · refine ⟨Int.tmod (t / 31 + rd c a) n, a + 1, t, ?_, hS, fun h => by omega, fun h => tmod_range (by omega) h⟩
        simp only [spec_l01Next.f, if_neg hn, if_pos hlt, if_pos ha, if_neg h256, e1, e3, e4, hk, hx, hx1, if_neg hn0]
    · refine ⟨Int.tmod (t / 31) n, a, t, ?_, ⟨hb, hl, ha, ha1, k0, k1⟩, fun h => by omega, fun h => tmod_range (by omega) h⟩
      simp only [spec_l01Next.f, if_neg hn, if_neg hlt, hk, hx, hx1, if_neg hn0]
theorem draw_pick {c : List Int} {a s : Int} (h : Src c a s) (l : List Int) (h0 : 0 < l.length) (h1 : l.length ≤ 1000) : ∃ v a' s', spec_l01Pick.f c a s l = some (v, a', s') ∧ Src c a' s' ∧ v ∈ l := by
  obtain ⟨v, a', s', e, hS, hv0, hv1⟩ := draw_next h (l.length : Int)
  have hv : 0 ≤ v ∧ v < (l.length : Int) := by
    by_cases hn : (l.length : Int) ≤ 1
    · have := hv0 hn; omega
    · exact hv1 (by omega)
  refine ⟨rd l v, a', s', by simp only [spec_l01Pick.f, e, Option.bind_some, if_pos hv.1, if_pos hv.2], hS, ?_⟩
  have : v.toNat < l.length := by omega
  unfold rd
  rw [List.getD_eq_getElem?_getD, List.getElem?_eq_getElem this]
  exact List.getElem_mem this
theorem draw_from (c : List Int) (hb : ∀ x ∈ c, (Lit.int .u8 x).wf = true) (hl : c.length ≤ 4096) : ∃ s, Ev (fun k => spec_l01From.f k c) (c, 0, s) ∧ Src c 0 s := by
  have hb' : ∀ x ∈ c, 0 ≤ x ∧ x ≤ 255 := by
    intro x hx
    have := hb x hx
    simp only [Lit.wf, IntKind.min, IntKind.max, IntKind.signed, IntKind.bits, Bool.and_eq_true, decide_eq_true_eq] at this
    simp at this
    omega
  have H := loop_list c (fun p t => ∀ s, 0 ≤ s → s < 2147483647 → ∃ s', Ev (fun k => spec_l01From.l0 k c (p.length : Int) c 0 s) (c, 0, s') ∧ 0 ≤ s' ∧ s' < 2147483647) ?_ ?_ 88007 (by omega) (by omega)
  · obtain ⟨s', h, h0, h1⟩ := H
    exact ⟨s', h, hb', hl, by omega, by omega, h0, h1⟩
  · intro s h0 h1
    refine ⟨s, Ev.step (fun k => by rw [spec_l01From.l0]) ?_, h0, h1⟩
    simp only [if_neg (nlt_self c)]
    exact Ev.now _
  · intro p x t he ih s h0 h1
    by_cases h64 : (p.length : Int) < 64
    · have hx : rd c (p.length : Int) = x := mid_get he 0
      obtain ⟨b0, b1⟩ := hb' x (by rw [he]; simp)
      have e : wrap64 (wrap64 (s * 71) + wrap64 x) = s * 71 + x := by rw [w64 (x := s * 71) (by omega) (by omega), w64 (x := x) (by omega) (by omega), w64 (by omega) (by omega)]
      obtain ⟨k0, k1⟩ := tmod_range (x := s * 71 + x) (n := 2147483647) (by omega) (by omega)
      obtain ⟨s', h, g0, g1⟩ := ih (Int.tmod (s * 71 + x) 2147483647) k0 k1
      refine ⟨s', Ev.step (fun k => by rw [spec_l01From.l0]) ?_, g0, g1⟩
      simp only [if_pos (mid_lt he), if_pos h64, if_pos (nat_nn p.length), hx, e, mid_next he (by omega)]
      exact h
    · refine ⟨s, Ev.step (fun k => by rw [spec_l01From.l0]) ?_, h0, h1⟩
      simp only [if_pos (mid_lt he), if_neg h64]
      exact Ev.now _
theorem draw_step {c : List Int} {a s : Int} (h : Src c a s) : ∃ x y z a' s', spec_l19DrawStep.f c a s = some (x, y, z, a', s') ∧ Src c a' s' := by
  obtain ⟨v1, a1, s1, e1, h1, _⟩ := draw_next h 90
  obtain ⟨v2, a2, s2, e2, h2, _⟩ := draw_pick h1 [60, 5000] (by decide) (by decide)
  obtain ⟨v3, a3, s3, e3, h3, _⟩ := draw_next h2 v2
  obtain ⟨v4, a4, s4, e4, h4, _⟩ := draw_next h3 60
  obtain ⟨v5, a5, s5, e5, h5, _⟩ := draw_next h4 60
  simp only [spec_l19DrawStep.f, e1, e2, e3, e4, e5, Option.bind_some]
  by_cases g0 : v5 = 0
  · obtain ⟨v6, a6, s6, e6, h6, _⟩ := draw_pick h5 [-1, 10000, 10001] (by decide) (by decide)
    simp only [if_pos g0, e6, Option.bind_some]
    exact ⟨_, _, _, _, _, rfl, h6⟩
  · by_cases g1 : v5 = 1
    · obtain ⟨v6, a6, s6, e6, h6, _⟩ := draw_pick h5 [0, 1, 100000, 100001] (by decide) (by decide)
      simp only [if_neg g0, if_pos g1, e6, Option.bind_some]
      exact ⟨_, _, _, _, _, rfl, h6⟩
    · by_cases g2 : v5 = 2
      · obtain ⟨v6, a6, s6, e6, h6, _⟩ := draw_pick h5 [-1, 0, 500, 501] (by decide) (by decide)
        simp only [if_neg g0, if_neg g1, if_pos g2, e6, Option.bind_some]
        exact ⟨_, _, _, _, _, rfl, h6⟩
      · simp only [if_neg g0, if_neg g1, if_neg g2]
        exact ⟨_, _, _, _, _, rfl, h5⟩
theorem draw_route_l1 {c : List Int} : ∀ (d : Nat) (l : List S37) (a s : Int), l.length + d = 11 → Src c a s → ∃ r a' s', Ev (fun k => spec_l19DrawRoute.l1 k l c a s) (r, a', s') ∧ Src c a' s' ∧ r.length ≤ 11 := by
  intro d
  induction d with
  | zero =>
    intro l a s hl h
    obtain ⟨v1, a1, s1, e1, h1, _, hv⟩ := draw_next h 2
    obtain ⟨v0, v1'⟩ := hv (by omega)
    refine ⟨l.take (10 + v1).toNat, a1, s1, Ev.step (fun k => by rw [spec_l19DrawRoute.l1]) ?_, h1, by rw [List.length_take]; omega⟩
    simp only [if_neg (show ¬ ((l.length : Int) < 11) by omega), e1, Option.bind_some, w64 (x := 10 + v1) (by omega) (by omega), if_pos (show 0 ≤ 10 + v1 by omega), if_pos (show 10 + v1 ≤ (l.length : Int) by omega)]
    exact Ev.now _
  | succ d ih =>
    intro l a s hl h
    obtain ⟨r, a', s', hr, h', hl'⟩ := ih (l ++ [⟨0, 7, 0⟩]) a s (by simp; omega) h
    refine ⟨r, a', s', Ev.step (fun k => by rw [spec_l19DrawRoute.l1]) ?_, h', hl'⟩
    simp only [if_pos (show ((l.length : Int) < 11) by omega), if_pos (show l.length < 5864062014805 by omega)]
    exact hr
theorem draw_route_l0 {c : List Int} : ∀ (d : Nat) (l : List S37) (n a s : Int), n ≤ d → l.length + d ≤ 5 → Src c a s → ∃ r a' s', Ev (fun k => spec_l19DrawRoute.l0 k l n c a s) (r, a', s') ∧ Src c a' s' ∧ r.length ≤ 11 := by
  intro d
  induction d with
  | zero =>
    intro l n a s hn hl h
    obtain ⟨v1, a1, s1, e1, h1, _⟩ := draw_next h 60
    by_cases g0 : v1 = 0
    · refine ⟨[], a1, s1, Ev.step (fun k => by rw [spec_l19DrawRoute.l0]) ?_, h1, by simp⟩
      simp only [if_neg (show ¬ n > 0 by omega), e1, Option.bind_some, if_pos g0]
      exact Ev.now _
    · by_cases g1 : v1 = 1
      · obtain ⟨r, a', s', hr, h', hl'⟩ := draw_route_l1 (c := c) (11 - l.length) l a1 s1 (by omega) h1
        refine ⟨r, a', s', Ev.step (fun k => by rw [spec_l19DrawRoute.l0]) ?_, h', hl'⟩
        simp only [if_neg (show ¬ n > 0 by omega), e1, Option.bind_some, if_neg g0, if_pos g1]
        exact hr
      · refine ⟨l, a1, s1, Ev.step (fun k => by rw [spec_l19DrawRoute.l0]) ?_, h1, by omega⟩
        simp only [if_neg (show ¬ n > 0 by omega), e1, Option.bind_some, if_neg g0, if_neg g1]
        exact Ev.now _
  | succ d ih =>
    intro l n a s hn hl h
    by_cases hp : n > 0
    · obtain ⟨x, y, z, a1, s1, e1, h1⟩ := draw_step h
      obtain ⟨r, a', s', hr, h', hl'⟩ := ih (l ++ [⟨x, y, z⟩]) (n - 1) a1 s1 (by omega) (by simp; omega) h1
      refine ⟨r, a', s', Ev.step (fun k => by rw [spec_l19DrawRoute.l0]) ?_, h', hl'⟩
      simp only [if_pos hp, e1, Option.bind_some, if_pos (show l.length < 5864062014805 by omega)]
      by_cases hw : wrap64 (n - 1) = n - 1
      · rw [hw]; exact hr
      · exact absurd (w64 (by omega) (by omega)) hw
    · exact ih l n a s (by omega) (by omega) h
theorem draw_route {c : List Int} {a s : Int} (h : Src c a s) : ∃ r a' s', Ev (fun k => spec_l19DrawRoute.f k c a s) (r, a', s') ∧ Src c a' s' ∧ r.length ≤ 11 := by
  obtain ⟨v1, a1, s1, e1, h1, _, hv⟩ := draw_next h 5
  obtain ⟨k0, k1⟩ := hv (by omega)
  simp only [spec_l19DrawRoute.f, e1, Option.bind_some, w64 (x := 1 + v1) (by omega) (by omega)]
  exact draw_route_l0 5 [] (1 + v1) a1 s1 (by omega) (by simp) h1
theorem draw_items {c : List Int} {a s : Int} (h : Src c a s) : ∃ v a' s', spec_l19DrawItems.f c a s = some (v, a', s') ∧ Src c a' s' ∧ -1 ≤ v ∧ v ≤ 1000001 := by
  obtain ⟨v1, a1, s1, e1, h1, _⟩ := draw_next h 24
  simp only [spec_l19DrawItems.f, e1, Option.bind_some]
  by_cases g0 : v1 = 0
  · obtain ⟨v2, a2, s2, e2, h2, hm⟩ := draw_pick h1 [-1, 0, 1000000, 1000001] (by decide) (by decide)
    simp only [if_pos g0, e2, Option.bind_some]
    refine ⟨_, _, _, rfl, h2, ?_⟩
    simp at hm; omega
  · obtain ⟨v2, a2, s2, e2, h2, hm⟩ := draw_pick h1 [20, 3000, 20000] (by decide) (by decide)
    obtain ⟨v3, a3, s3, e3, h3, hv0, hv1⟩ := draw_next h2 v2
    simp only [if_neg g0, e2, e3, Option.bind_some]
    refine ⟨_, _, _, rfl, h3, ?_⟩
    simp at hm
    have := hv1 (by omega)
    omega
theorem eight_size : ∀ n : Nat, (([(⟨#[48]⟩ : ByteArray), (⟨#[49]⟩ : ByteArray), (⟨#[32]⟩ : ByteArray), (⟨#[45]⟩ : ByteArray), (⟨#[46]⟩ : ByteArray), (⟨#[44]⟩ : ByteArray), (⟨#[10]⟩ : ByteArray), (⟨#[120]⟩ : ByteArray)] : List ByteArray).getD n ByteArray.empty).size ≤ 1
  | 0 => by decide
  | 1 => by decide
  | 2 => by decide
  | 3 => by decide
  | 4 => by decide
  | 5 => by decide
  | 6 => by decide
  | 7 => by decide
  | n + 8 => by simp [List.getD]
theorem draw_damage {c : List Int} {a s : Int} (h : Src c a s) (t : ByteArray) (ht : t.size ≤ 9000000) : ∃ r a' s', spec_l01Damage.f c a s t = some (r, a', s') ∧ Src c a' s' ∧ r.size ≤ t.size + 1 := by
  have w1 : wrap64 ((t.size : Int) + 1) = (t.size : Int) + 1 := w64 (by omega) (by omega)
  obtain ⟨v1, a1, s1, e1, h1, m0, m1⟩ := draw_next h ((t.size : Int) + 1)
  have hv : 0 ≤ v1 ∧ v1 ≤ (t.size : Int) := by
    by_cases c1 : (t.size : Int) + 1 ≤ 1
    · have := m0 c1; omega
    · have := m1 (by omega); omega
  obtain ⟨v2, a2, s2, e2, h2, _⟩ := draw_next h1 8
  have x1 : (t.extract 0 v1.toNat).size ≤ v1.toNat := by rw [ByteArray.size_extract]; omega
  have x2 : (t.extract v1.toNat t.size).size ≤ t.size - v1.toNat := by rw [ByteArray.size_extract]; omega
  simp only [spec_l01Damage.f, w1, e1, e2, Option.bind_some]
  by_cases c0 : v2 = 0
  · simp only [if_pos c0, if_pos hv.1, if_pos hv.2]
    exact ⟨_, _, _, rfl, h2, by omega⟩
  by_cases c1 : v2 = 1
  · obtain ⟨v3, a3, s3, e3, h3, _, m3⟩ := draw_next h2 8
    have hv3 := m3 (by omega)
    have h8 := eight_size v3.toNat
    simp only [if_neg c0, if_pos c1, if_pos hv.1, if_pos hv.2, e3, Option.bind_some, if_pos hv3.1]
    rw [if_pos (by simp only [List.length_cons, List.length_nil]; omega)]
    unfold rdOf
    generalize hz : (([(⟨#[48]⟩ : ByteArray), (⟨#[49]⟩ : ByteArray), (⟨#[32]⟩ : ByteArray), (⟨#[45]⟩ : ByteArray), (⟨#[46]⟩ : ByteArray), (⟨#[44]⟩ : ByteArray), (⟨#[10]⟩ : ByteArray), (⟨#[120]⟩ : ByteArray)] : List ByteArray).getD v3.toNat ByteArray.empty) = z at h8 ⊢
    rw [if_pos (by omega), if_pos (by rw [ByteArray.size_append]; omega)]
    exact ⟨_, _, _, rfl, h3, by rw [ByteArray.size_append, ByteArray.size_append]; omega⟩
  by_cases c2 : v2 = 2
  · by_cases c3 : v1 < (t.size : Int)
    · have w2 : wrap64 (v1 + 1) = v1 + 1 := w64 (by omega) (by omega)
      have x3 : (t.extract (v1 + 1).toNat t.size).size ≤ t.size - (v1 + 1).toNat := by rw [ByteArray.size_extract]; omega
      simp only [if_neg c0, if_neg c1, if_pos c2, if_pos c3, if_pos hv.1, if_pos hv.2, w2, if_pos (show 0 ≤ v1 + 1 by omega), if_pos (show v1 + 1 ≤ (t.size : Int) by omega)]
      rw [if_pos (by omega)]
      exact ⟨_, _, _, rfl, h2, by rw [ByteArray.size_append]; omega⟩
    · simp only [if_neg c0, if_neg c1, if_pos c2, if_neg c3]
      exact ⟨_, _, _, rfl, h2, by omega⟩
  · simp only [if_neg c0, if_neg c1, if_neg c2]
    exact ⟨_, _, _, rfl, h2, by omega⟩
theorem likeSteps (l : List S37) (h : l.length ≤ 1048576) : Ev (fun k => laws_likeSteps9.f k l l) true := by
  simp only [laws_likeSteps9.f, if_true]
  refine loop_list l (fun p s => Ev (fun k => laws_likeSteps9.l0 k l l (p.length : Int)) true) ?_ ?_
  · refine Ev.step (fun k => by rw [laws_likeSteps9.l0]) ?_
    simp only [if_neg (nlt_self l)]
    exact Ev.now _
  · intro p x s he ih
    refine Ev.step (fun k => by rw [laws_likeSteps9.l0]) ?_
    simp only [if_pos (mid_lt he), if_pos (nat_nn p.length), beq_self_eq_true, Bool.not_true, Bool.or_self, Bool.false_eq_true, if_false, mid_next he (by omega)]
    exact ih
theorem draw_slowest (c : List Int) (hb : ∀ x ∈ c, (Lit.int .u8 x).wf = true) (hl : c.length ≤ 4096) : ∃ l n, Ev (fun k => spec_DrawSlowestStep.f k c) (l, n) ∧ l.length ≤ 11 := by
  obtain ⟨s0, h0, hs0⟩ := draw_from c hb hl
  obtain ⟨l, a1, s1, h1, hs1, l1⟩ := draw_route hs0
  obtain ⟨v, a2, s2, e2, hs2, _⟩ := draw_items hs1
  simp only [spec_DrawSlowestStep.f, spec_DrawRouteTime.f]
  refine ⟨l, v, Ev.bind (a := (l, v)) (Ev.bind h0 (Ev.bind h1 ?_)) (Ev.now _), l1⟩
  simp only [e2, Option.bind_some]
  exact Ev.now _
theorem stepL_short {x : S37} (h : okStep x = true) : (stepL x).length ≤ 32 := by
  obtain ⟨h0, h1, h2⟩ := step_range h
  have d0 := dec_le 10 x.f0.toNat (by omega) (by decide)
  have d1 := dec_le 10 x.f1.toNat (by omega) (by decide)
  have d2 := dec_le 10 x.f2.toNat (by omega) (by decide)
  simp only [stepL, List.length_append, List.length_singleton]
  omega
theorem routeL_short {l : List S37} (h : routeB l = true) : (routeL l).length ≤ 330 := by
  obtain ⟨h1, _, h3⟩ := routeB_ok h
  have := join_len 32 (l.map stepL) (fun y hy => by
    obtain ⟨x, hx, rfl⟩ := List.mem_map.1 hy
    exact stepL_short (h1 x hx))
  have h4 : (l.map stepL).length ≤ 10 := by simpa using h3
  unfold routeL
  omega
theorem draw_readroute (c : List Int) (hb : ∀ x ∈ c, (Lit.int .u8 x).wf = true) (hl : c.length ≤ 4096) : ∃ t : ByteArray, Ev (fun k => spec_DrawReadRoute.f k c) t ∧ t.size ≤ 331 := by
  obtain ⟨s0, h0, hs0⟩ := draw_from c hb hl
  obtain ⟨l, a1, s1, h1, hs1, l1⟩ := draw_route hs0
  have ht := (both_RouteText l (by omega)).1
  have hsz : (if routeB l = true then bA (routeL l) else bA []).size ≤ 330 := by
    by_cases hr : routeB l = true
    · rw [if_pos hr, bA_size]
      exact routeL_short hr
    · rw [if_neg hr, bA_size]; simp
  generalize (if routeB l = true then bA (routeL l) else bA []) = t at ht hsz
  obtain ⟨v2, a2, s2, e2, h2, _⟩ := draw_next hs1 3
  simp only [spec_DrawReadRoute.f]
  by_cases c2 : v2 = 0
  · obtain ⟨r, a3, s3, e3, h3, hr⟩ := draw_damage h2 t (by omega)
    refine ⟨r, Ev.bind h0 (Ev.bind h1 (Ev.bind ht ?_)), by omega⟩
    simp only [e2, Option.bind_some, if_pos c2, e3]
    exact Ev.now _
  · refine ⟨t, Ev.bind h0 (Ev.bind h1 (Ev.bind ht ?_)), by omega⟩
    simp only [e2, Option.bind_some, if_neg c2]
    exact Ev.now _
/-- The slowest step, told by both. -/
theorem slow_told (l : List S37) (n : Int) (h : l.length ≤ 1048576) : ∃ r : Int × Int, Ev (fun k => spec_SlowestStep.f k l n) r ∧ Ev (fun k => impl_SlowestStep.f k l n) r ∧ r.2 = codeOf (routeB l) n ∧ (codeOf (routeB l) n = 0 → ∃ b : Nat, ∃ hb : b < l.length, r.1 = (b : Int) ∧ ∀ x ∈ l, minB x.f0 x.f1 n ≤ minB (l[b]).f0 (l[b]).f1 n) := by
  simp only [spec_SlowestStep.f, impl_SlowestStep.f]
  by_cases hc : codeOf (routeB l) n = 0
  · have hl := route_len hc
    have H := loop_list l (fun p s => ∀ b : Nat, ∀ hb : b < l.length, (∀ x ∈ p, minB x.f0 x.f1 n ≤ minB (l[b]).f0 (l[b]).f1 n) → ∃ c : Nat, ∃ hb : c < l.length, Ev (fun k => spec_SlowestStep.l0 k l n (b : Int) (p.length : Int)) ((c : Int), 0) ∧ Ev (fun k => impl_SlowestStep.l0 k l n (b : Int) l (l.length : Int) (p.length : Int)) ((c : Int), 0) ∧ ∀ x ∈ l, minB x.f0 x.f1 n ≤ minB (l[c]).f0 (l[c]).f1 n) ?_ ?_ 0 (by omega) (fun x hx => by cases hx)
    · obtain ⟨c, hb, h1, h2, h3⟩ := H
      exact ⟨((c : Int), 0), spec_route l n h _ _ _ (fun _ => h1) (fun h => absurd hc h), impl_route l n h _ _ _ (fun _ => h2) (fun h => absurd hc h), hc.symm, fun _ => ⟨c, hb, rfl, h3⟩⟩
    · intro b hb hm
      exact ⟨b, hb, Ev.step (fun k => by rw [spec_SlowestStep.l0]) (by simp only [if_neg (nlt_self l)]; exact Ev.now _), Ev.step (fun k => by rw [impl_SlowestStep.l0]) (by simp only [if_neg (nlt_self l)]; exact Ev.now _), hm⟩
    · intro p x s he ih b hb hm
      have hx := okStep_of hc (x := x) (by rw [he]; simp)
      have hy := okStep_of hc (x := l[b]) (List.getElem_mem hb)
      have ey : l.getD (b : Int).toNat z37 = l[b] := by simp [List.getD_eq_getElem?_getD, hb]
      have hlt := mid_lt he
      have hpl : p.length < l.length := by omega
      have exx : l[p.length] = x := by subst he; simp
      by_cases hg : minB x.f0 x.f1 n > minB (l[b]).f0 (l[b]).f1 n
      · obtain ⟨c, hcb, h1, h2, h3⟩ := ih p.length hpl (fun y hy => by
          rw [exx]
          rcases List.mem_append.1 hy with hy | hy
          · have := hm y hy; omega
          · simp at hy; rw [hy]; exact Int.le_refl _)
        refine ⟨c, hcb, Ev.step (fun k => by rw [spec_SlowestStep.l0]) ?_, Ev.step (fun k => by rw [impl_SlowestStep.l0]) ?_, h3⟩
        · simp only [if_pos hlt, if_pos (nat_nn p.length), if_pos (nat_nn b), if_pos (show (b : Int) < l.length by omega), rd_T37, mid_get he, ey, l19Time _ _ _ n hx, l19Time _ _ _ n hy, Option.bind_some, mid_next he (by omega), if_pos hg]
          exact h1
        · simp only [if_pos hlt, if_pos (nat_nn p.length), if_pos (nat_nn b), if_pos (show (b : Int) < l.length by omega), rd_T37, mid_get he, ey, minutesOf _ _ _ n hx, minutesOf _ _ _ n hy, Option.bind_some, mid_next he (by omega), if_pos hg]
          exact h2
      · obtain ⟨c, hcb, h1, h2, h3⟩ := ih b hb (fun y hy => by
          rcases List.mem_append.1 hy with hy | hy
          · exact hm y hy
          · simp at hy; rw [hy]; omega)
        refine ⟨c, hcb, Ev.step (fun k => by rw [spec_SlowestStep.l0]) ?_, Ev.step (fun k => by rw [impl_SlowestStep.l0]) ?_, h3⟩
        · simp only [if_pos hlt, if_pos (nat_nn p.length), if_pos (nat_nn b), if_pos (show (b : Int) < l.length by omega), rd_T37, mid_get he, ey, l19Time _ _ _ n hx, l19Time _ _ _ n hy, Option.bind_some, mid_next he (by omega), if_neg hg]
          exact h1
        · simp only [if_pos hlt, if_pos (nat_nn p.length), if_pos (nat_nn b), if_pos (show (b : Int) < l.length by omega), rd_T37, mid_get he, ey, minutesOf _ _ _ n hx, minutesOf _ _ _ n hy, Option.bind_some, mid_next he (by omega), if_neg hg]
          exact h2
  · exact ⟨(0, codeOf (routeB l) n), spec_route l n h _ _ _ (fun h => absurd h hc) (fun _ => rfl), impl_route l n h _ _ _ (fun h => absurd h hc) (fun _ => rfl), rfl, fun h => absurd h hc⟩
def timeF (n acc : Int) (l : List S37) : Int := l.foldl (fun a x => wrap64 (a + minB x.f0 x.f1 n)) acc
theorem time_told (l : List S37) (n : Int) (h : l.length ≤ 1048576) : ∃ r : Int × Int, Ev (fun k => spec_RouteTime.f k l n) r ∧ Ev (fun k => impl_RouteTime.f k l n) r ∧ r.2 = codeOf (routeB l) n ∧ (codeOf (routeB l) n = 0 → r.1 = timeF n 0 l) := by
  simp only [spec_RouteTime.f, impl_RouteTime.f]
  by_cases hc : codeOf (routeB l) n = 0
  · have hl := route_len hc
    have H := loop_list l (fun p s => ∀ acc, Ev (fun k => spec_RouteTime.l0 k l n acc (p.length : Int)) (timeF n acc s, 0) ∧ Ev (fun k => impl_RouteTime.l0 k n acc l (l.length : Int) (p.length : Int)) (timeF n acc s, 0)) ?_ ?_ 0
    · exact ⟨(timeF n 0 l, 0), spec_route l n h _ _ _ (fun _ => H.1) (fun h => absurd hc h), impl_route l n h _ _ _ (fun _ => H.2) (fun h => absurd hc h), hc.symm, fun _ => rfl⟩
    · intro acc
      exact ⟨Ev.step (fun k => by rw [spec_RouteTime.l0]) (by simp only [if_neg (nlt_self l)]; exact Ev.now _), Ev.step (fun k => by rw [impl_RouteTime.l0]) (by simp only [if_neg (nlt_self l)]; exact Ev.now _)⟩
    · intro p x s he ih acc
      obtain ⟨h1, h2⟩ := ih (wrap64 (acc + minB x.f0 x.f1 n))
      have hx := okStep_of hc (x := x) (by rw [he]; simp)
      refine ⟨Ev.step (fun k => by rw [spec_RouteTime.l0]) ?_, Ev.step (fun k => by rw [impl_RouteTime.l0]) ?_⟩
      · simp only [if_pos (mid_lt he), if_pos (nat_nn p.length), rd_T37, mid_get he, l19Time _ _ _ n hx, Option.bind_some, mid_next he (by omega)]
        exact h1
      · simp only [if_pos (mid_lt he), if_pos (nat_nn p.length), rd_T37, mid_get he, minutesOf _ _ _ n hx, Option.bind_some, mid_next he (by omega)]
        exact h2
  · exact ⟨(0, codeOf (routeB l) n), spec_route l n h _ _ _ (fun h => absurd h hc) (fun _ => rfl), impl_route l n h _ _ _ (fun h => absurd h hc) (fun _ => rfl), rfl, fun h => absurd h hc⟩
theorem step_time {x : S37} {n : Int} (hx : stepB x.f0 x.f1 x.f2 = true) (hn : inR n 0 1000000 = true) : impl_StepTime.f x.f0 x.f1 x.f2 n = some (minB x.f0 x.f1 n, 0) := by
  simp only [impl_StepTime.f, impl_IsStep, hx, Option.bind_some, if_true, impl_isRun.f, inRange, hn, minutesOf _ _ _ n hx]
theorem routes_loop {l : List S37} {n M T : Int} (hc : codeOf (routeB l) n = 0) (hM : ∀ x ∈ l, minB x.f0 x.f1 n ≤ M) (hT : T = timeF n 0 l) : Ev (fun k => laws_FnRoutes.l0 k l n T M 0 0 0) true := by
  have hl := route_len hc
  obtain ⟨_, n0, n1⟩ := codeOf_zero hc
  have hn : inR n 0 1000000 = true := inR_iff.2 ⟨n0, n1⟩
  refine loop_list l (fun p s => ∀ acc, T = timeF n acc s → Ev (fun k => laws_FnRoutes.l0 k l n T M 0 acc (p.length : Int)) true) ?_ ?_ 0 hT
  · intro acc he
    refine Ev.step (fun k => by rw [laws_FnRoutes.l0]) ?_
    simp only [if_neg (nlt_self l), if_true]
    exact ev_eq (Ev.now _) (by rw [he]; simp [timeF])
  · intro p x s he ih acc hT'
    have hx := okStep_of hc (x := x) (by rw [he]; simp)
    have hxr : rd_T37 l (p.length : Int) = x := by unfold rd_T37; exact mid_get he _
    have hm := hM x (by rw [he]; simp)
    refine Ev.step (fun k => by rw [laws_FnRoutes.l0]) ?_
    simp only [if_pos (mid_lt he), if_pos (nat_nn p.length), hxr, step_time hx hn, Option.bind_some, if_true, if_neg (show ¬ minB x.f0 x.f1 n > M by omega), mid_next he (by omega)]
    exact ih _ hT'
theorem FnRoutes : laws_FnRoutes.Pure := by
  intro c hl hb
  refine Ev.rounds (g := fun k => laws_FnRoutes.f k c) ?_
  simp only [laws_FnRoutes.f, laws_big.f, Option.bind_some]
  by_cases hbig : (c.length : Int) > 4096
  · simp only [decide_eq_true hbig, if_true]
    exact Ev.now _
  simp only [decide_eq_false hbig, Bool.false_eq_true, if_false]
  obtain ⟨l, n, hd1, hl11⟩ := draw_slowest c hb (by omega)
  obtain ⟨s, hd2, hs⟩ := draw_readroute c hb (by omega)
  have hlm : l.length ≤ 1048576 := by omega
  obtain ⟨r, r1, r2, r3, r4⟩ := slow_told l n hlm
  obtain ⟨t, t1, t2, t3, t4⟩ := time_told l n hlm
  obtain ⟨x1, x2⟩ := both_RouteText l hlm
  rw [bA_of s] at hd2
  have hsl : s.data.toList.length ≤ 331 := by
    have : s.data.toList.length = s.size := by rw [Array.length_toList]; rfl
    omega
  generalize s.data.toList = u at hd2 hsl
  obtain ⟨y, y1, y2, y3, _, y5⟩ := both_ReadRoute u (by omega)
  have hr := impl_IsRoute l hlm
  have hloop : Ev (fun k => laws_FnRoutes.j0 k l n r.1 r.2 t.1 false) true := by
    refine Ev.step (fun k => by rw [laws_FnRoutes.j0]) ?_
    simp only [Bool.false_eq_true, if_false]
    by_cases hc : codeOf (routeB l) n = 0
    · obtain ⟨b, hbl, e, hmax⟩ := r4 hc
      obtain ⟨_, n0, n1⟩ := codeOf_zero hc
      have hst := step_time (okStep_of hc (List.getElem_mem hbl)) (inR_iff.2 ⟨n0, n1⟩)
      have erd : rd_T37 l (b : Int) = l[b] := by simp [rd_T37, List.getD_eq_getElem?_getD, hbl]
      simp only [r3, hc, if_true, e, if_pos (nat_nn b), if_pos (show (b : Int) < (l.length : Int) by omega), erd, hst, Option.bind_some]
      exact routes_loop hc hmax (t4 hc)
    · simp only [r3, if_neg hc]
      exact Ev.now _
  have hy2 : y.2 = true → Ev (fun k => impl_RouteText.f k y.1) (bA u) := by
    intro h
    rcases y3 with e | ⟨l', h1, h2, h3⟩
    · rw [e] at h; simp at h
    · rw [h3]
      have hl' := (routeB_ok h1).2.2
      have := (both_RouteText l' (by omega)).2
      rw [if_pos h1, ← h2] at this
      exact this
  have hend : ∀ b : Bool, b = routeB l → Ev (fun k => if (y.2 != y.2) = true then (laws_FnRoutes.j0 k l n r.1 r.2 t.1 true) else ((laws_likeSteps9.f k y.1 y.1).bind fun t434 => (if t434 = true then (if y.2 = true then ((impl_RouteText.f k y.1).bind fun t435 => (if t435.toList = (bA u).toList then ((impl_IsRoute.f k l).bind fun t436 => (laws_FnRoutes.j0 k l n r.1 r.2 t.1 (t436 != b))) else (laws_FnRoutes.j0 k l n r.1 r.2 t.1 true))) else ((impl_IsRoute.f k l).bind fun t437 => (laws_FnRoutes.j0 k l n r.1 r.2 t.1 (t437 != b)))) else (laws_FnRoutes.j0 k l n r.1 r.2 t.1 true)))) true := by
    intro b hbe
    simp only [bne_self_eq_false, Bool.false_eq_true, if_false]
    refine Ev.bind (likeSteps y.1 (by omega)) ?_
    simp only [if_true]
    by_cases c1 : y.2 = true
    · simp only [if_pos c1]
      refine Ev.bind (hy2 c1) ?_
      simp only [if_true]
      refine Ev.bind hr ?_
      rw [hbe]
      simp only [bne_self_eq_false]
      exact hloop
    · simp only [if_neg c1]
      refine Ev.bind hr ?_
      rw [hbe]
      simp only [bne_self_eq_false]
      exact hloop
  refine Ev.bind hd1 ?_
  refine Ev.bind r2 ?_
  refine Ev.bind r1 ?_
  refine Ev.bind t2 ?_
  refine Ev.bind t1 ?_
  refine Ev.bind x2 ?_
  cases hp : routeB l
  · rw [hp] at x1 x2
    simp only [Bool.false_eq_true, if_false] at x1 x2 ⊢
    obtain ⟨q, _, q2, q3, _⟩ := both_ReadRoute [] (by simp)
    have hq : q = ([], false) := by
      rcases q3 with e | ⟨l', h1, h2, _⟩
      · exact e
      · exact absurd h2 (by
          intro h2
          have h3 := routeL_spl (routeB_ok h1).2.1
          rw [← h2] at h3
          have h4 : (l'.map stepL) = [[]] := by rw [← h3]; rfl
          cases l' with
          | nil => simp at h4
          | cons z l' =>
            simp only [List.map_cons, List.cons.injEq] at h4
            have := h4.1
            simp [stepL] at this)
    rw [hq] at q2
    refine Ev.bind q2 ?_
    refine Ev.bind hd2 ?_
    refine Ev.bind y2 ?_
    refine Ev.bind y1 ?_
    simp only [if_true]
    refine Ev.bind x1 ?_
    simp only [if_true, toList_bA, bne_self_eq_false, Bool.false_eq_true, if_false]
    have := hend false hp.symm
    simp only [toList_bA, bne_self_eq_false, Bool.false_eq_true, if_false] at this
    exact this
  · rw [hp] at x1 x2
    simp only [if_true] at x1 x2 ⊢
    obtain ⟨q, _, q2, _, q4, _⟩ := both_ReadRoute (routeL l) (by have := routeL_short hp; omega)
    rw [q4 l hp rfl] at q2
    have hne : (routeL l != ([] : List UInt8)) = true := by
      rw [bne_iff_ne]
      intro h
      have h3 := routeL_spl (routeB_ok hp).2.1
      rw [h] at h3
      have h4 : (l.map stepL) = [[]] := by rw [← h3]; rfl
      cases l with
      | nil => simp at h4
      | cons z l' =>
        simp only [List.map_cons, List.cons.injEq] at h4
        have := h4.1
        simp [stepL] at this
    refine Ev.bind q2 ?_
    refine Ev.bind hd2 ?_
    refine Ev.bind y2 ?_
    refine Ev.bind y1 ?_
    simp only [if_true]
    refine Ev.bind x1 ?_
    simp only [if_true, toList_bA, hne, bne_self_eq_false, Bool.false_eq_true, if_false]
    refine Ev.bind (likeSteps l hlm) ?_
    simp only [if_true]
    have := hend true hp.symm
    simp only [toList_bA, bne_self_eq_false, Bool.false_eq_true, if_false] at this
    exact this

end Go.Proofs.YtcieonfpmchdkaaGreatDoor.Pure
