import Derived.WalkKit
import Derived.ProofKit
import Derived.OpenShut
import Derived.ShutString
import Derived.ChangeOld
import Derived.ChangeSame
import Derived.ChangeSlices
import Derived.Below
import Derived.SizedLaws
import Derived.Deep.Slices
import Derived.Deep.Fields
import Derived.Lib.SmallJoins
import Derived.Test.YtcieonfpmchdkaaWWords
namespace Go.Proofs.YtcieonfpmchdkaaX
open Go.ChangeShapes Go.WideShapes Go.ChangeAt Go.RowKit Go.Deep Go.Proofs.YtcieonfpmchdkaaW.PrintWords
set_option linter.unusedVariables false
section
variable {H : Type} {enc : TypeId × Value → H} {P : Program} {w : World} {base : Nat} {spare : Nat → Bool} {held : Bool}
theorem list_of {α : Type} {Q : Nat → α → Prop} : ∀ n, (∀ i, i < n → ∃ x, Q i x) → ∃ l : List α, l.length = n ∧ ∀ i (h : i < l.length), Q i l[i]
  | 0, _ => ⟨[], rfl, fun i h => absurd h (by simp)⟩
  | n + 1, hq => by
    obtain ⟨l, hl, hi⟩ := list_of n (fun i h => hq i (by omega))
    obtain ⟨x, hx⟩ := hq n (by omega)
    refine ⟨l ++ [x], by simp [hl], fun i h => ?_⟩
    by_cases hlt : i < l.length
    · rw [List.getElem_append_left hlt]
      exact hi i hlt
    · have : i = n := by simp at h; omega
      subst this
      rw [List.getElem_append_right (by omega)]
      simpa [hl] using hx
/-- A slice of structs whose cells are whole numbers, read as a list. -/
theorem open_cells {α : Type} (k : Kd α) (mk : (Nat → Int) → α) (nf : Nat) (hsz : k.sz = nf) (hK : ∀ w f, k.K w (mk f) ((List.range nf).map fun j => Value.int .i64 (f j)))
    {t e : TypeId} {a : Option Addr} {len cap : Nat} {d : DataW H} {ps : List MemPlace} (ht : P.underlying t = some (.slice e)) (hC : P.cellsOf e = nf)
    (hel : ∀ (fuel : Nat) (cs : List Value) (x : DataW H × List MemPlace), DataW.trod enc P w 0 (fun _ => true) true fuel e cs = some x → ∃ f : Nat → Int, (∀ j, j < nf → (Lit.int .i64 (f j)).wf = true) ∧ ∀ j, j < nf → cs[j]? = some (Value.int .i64 (f j)))
    (h : DataW.Trod enc P w 0 (fun _ => true) true t (.slice a len cap) d ps) :
    ∃ l : List α, l.length = len ∧ len ≤ cap ∧ Kd.C k w a len l ∧ (∀ x ∈ l, ∃ f, x = mk f ∧ ∀ j, j < nf → (Lit.int .i64 (f j)).wf = true) ∧ ((d = .nil ∧ len = 0) ∨ ∃ L1 L2, d = .slice L1 L2 ∧ L1.length = len) := by
  obtain ⟨fuel, hf⟩ := h
  rcases open_slice ht hf with ⟨h0, h1⟩ | ⟨ad, l1, c1, m, n, D, Pl, hcs, hb, hl, hm, hmm, hx, hi⟩
  · simp [Value.cells] at h0
    obtain ⟨rfl, rfl, rfl⟩ := h0
    exact ⟨[], rfl, Nat.le_refl _, ⟨rfl, by omega, fun hp => absurd hp (by omega)⟩, (fun x hx => by cases hx), .inl ⟨by simpa using congrArg Prod.fst h1, rfl⟩⟩
  · simp [Value.cells] at hcs
    obtain ⟨rfl, rfl, rfl⟩ := hcs
    have hmc : m = cap := by simpa using hmm
    subst hmc
    have hq : ∀ i, i < len → ∃ f : Nat → Int, (∀ j, j < nf → (Lit.int .i64 (f j)).wf = true) ∧ ∀ j, j < nf → w.cell? (ad.add (i * nf + j)) = some (Value.int .i64 (f j)) := by
      intro i hi'
      obtain ⟨cs, hc, ht'⟩ := hi i (by omega)
      rw [hC] at hc
      obtain ⟨f, hw, hcell⟩ := hel _ _ _ ht'
      obtain ⟨_, hcl, hat⟩ := World.cells?_some hc
      refine ⟨f, hw, fun j hj => ?_⟩
      have := hat j hj
      rw [← Go.Deep.add_add, this, hcell j hj]
    obtain ⟨l, hll, hli⟩ := list_of len hq
    refine ⟨l.map mk, by simp [hll], hl, ⟨by simp [hll], by simp only [maxLen] at hm; omega, fun hp => ⟨ad, rfl, fun j p hj => ?_⟩⟩, fun x hx => ?_, .inr ⟨_, _, congrArg Prod.fst hx, by simp⟩⟩
    · rw [List.getElem?_map] at hj
      obtain ⟨f, hf', rfl⟩ := Option.map_eq_some_iff.1 hj
      obtain ⟨hjl, hfe⟩ := List.getElem?_eq_some_iff.1 hf'
      have := hli j hjl
      rw [hfe] at this
      refine ⟨_, by simp [hsz], hK w f, fun i u hu => ?_⟩
      rw [List.getElem?_map] at hu
      obtain ⟨i', hi', rfl⟩ := Option.map_eq_some_iff.1 hu
      obtain ⟨hin, hie⟩ := List.getElem?_eq_some_iff.1 hi'
      have hin' : i < nf := by simpa using hin
      have : i' = i := by simpa using hie.symm
      subst this
      rw [hsz]
      exact this.2 i' hin'
    · obtain ⟨f, hf', rfl⟩ := List.mem_map.1 hx
      obtain ⟨j, hj, rfl⟩ := List.getElem_of_mem hf'
      exact ⟨_, rfl, (hli j hj).1⟩
/-- An element's cells, where it is a whole number. -/
theorem el_int {e : TypeId} (he : P.underlying e = some (.int .i64)) (fuel : Nat) (cs : List Value) (x : DataW H × List MemPlace) (h : DataW.trod enc P w base spare held fuel e cs = some x) :
    ∃ f : Nat → Int, (∀ j, j < 1 → (Lit.int .i64 (f j)).wf = true) ∧ ∀ j, j < 1 → cs[j]? = some (Value.int .i64 (f j)) := by
  obtain ⟨n, rfl, _, hw⟩ := DataW.trod_int he h
  refine ⟨fun _ => n, fun _ _ => hw, fun j hj => ?_⟩
  have : j = 0 := by omega
  subst this
  rfl
def isI64 (P : Program) (t : TypeId) : Bool := match P.underlying t with | some (.int .i64) => true | _ => false
theorem isI64_eq {t : TypeId} (h : isI64 P t = true) : P.underlying t = some (.int .i64) := by
  unfold isI64 at h
  split at h
  · assumption
  · cases h
/-- An element's cells, where it is a struct of whole numbers. -/
theorem el_struct {e : TypeId} {fs : Array Field} {nf : Nat} (he : P.underlying e = some (.struct fs)) (hone : oneCellFields P fs = true) (hC : P.cellsOf e = nf) (hn : fs.size = nf) (hty : (fs.toList.all fun f => isI64 P f.type) = true)
    (fuel : Nat) (cs : List Value) (x : DataW H × List MemPlace) (h : DataW.trod enc P w base spare held fuel e cs = some x) :
    ∃ f : Nat → Int, (∀ j, j < nf → (Lit.int .i64 (f j)).wf = true) ∧ ∀ j, j < nf → cs[j]? = some (Value.int .i64 (f j)) := by
  obtain ⟨ys, n', hn', hy, hlen, hyl, hf⟩ := DataW.trod_struct he h
  have hq : ∀ j, j < nf → ∃ v : Int, (Lit.int .i64 v).wf = true ∧ cs[j]? = some (Value.int .i64 v) := by
    intro j hj
    have hj' : j < fs.size := by omega
    have hfj : fs[j]? = some fs[j] := Array.getElem?_eq_getElem hj'
    obtain ⟨ho, hk⟩ := hone_of hone j _ hfj
    have h1 := hf j _ hfj
    rw [ho, hk] at h1
    have hcl : cs.length = nf := by omega
    have hone' : (cs.drop j).take 1 = [cs[j]'(by omega)] := by
      rw [List.drop_eq_getElem_cons (by omega)]
      rfl
    rw [hone'] at h1
    have hys : ys[j]? = some (ys[j]'(by omega)) := List.getElem?_eq_getElem (by omega)
    rw [hys] at h1
    have hu : P.underlying fs[j].type = some (.int .i64) := isI64_eq (by
      have := List.all_eq_true.1 hty fs[j] (by simp)
      exact this)
    obtain ⟨v, hv, _, hw⟩ := DataW.trod_int hu h1
    refine ⟨v, hw, ?_⟩
    rw [List.getElem?_eq_getElem (by omega)]
    exact congrArg some (by simpa using hv)
  refine ⟨fun j => if h : j < nf then (hq j h).choose else 0, fun j hj => ?_, fun j hj => ?_⟩
  · simp only [dif_pos hj]
    exact (hq j hj).choose_spec.1
  · simp only [dif_pos hj]
    exact (hq j hj).choose_spec.2
/-- An element's cells, where it is a whole number ahead of a struct. -/
theorem el_nest {e : TypeId} {f0 f1 : Field} {m : Nat} (he : P.underlying e = some (.struct #[f0, f1])) (hC : P.cellsOf e = 1 + m) (o0 : f0.offset = 0) (c0 : P.cellsOf f0.type = 1) (o1 : f1.offset = 1) (c1 : P.cellsOf f1.type = m) (hi : P.underlying f0.type = some (.int .i64))
    (hel : ∀ (fuel : Nat) (cs : List Value) (x : DataW H × List MemPlace), DataW.trod enc P w base spare held fuel f1.type cs = some x → ∃ f : Nat → Int, (∀ j, j < m → (Lit.int .i64 (f j)).wf = true) ∧ ∀ j, j < m → cs[j]? = some (Value.int .i64 (f j)))
    (fuel : Nat) (cs : List Value) (x : DataW H × List MemPlace) (h : DataW.trod enc P w base spare held fuel e cs = some x) :
    ∃ f : Nat → Int, (∀ j, j < 1 + m → (Lit.int .i64 (f j)).wf = true) ∧ ∀ j, j < 1 + m → cs[j]? = some (Value.int .i64 (f j)) := by
  obtain ⟨y0, y1, n, _, hlen, h0, h1⟩ := trod_struct2 he h
  rw [o0, c0, List.drop_zero] at h0
  rw [o1, c1] at h1
  obtain ⟨v, hv, _, hw⟩ := DataW.trod_int hi h0
  obtain ⟨f, hf, hc⟩ := hel _ _ _ h1
  refine ⟨fun j => if j = 0 then v else f (j - 1), fun j hj => ?_, fun j hj => ?_⟩
  · by_cases e0 : j = 0
    · simp only [e0, if_true]
      exact hw
    · simp only [if_neg e0]
      exact hf _ (by omega)
  · by_cases e0 : j = 0
    · subst e0
      have : (cs.take 1)[0]? = some (Value.int .i64 v) := by rw [hv]; rfl
      simpa using this
    · simp only [if_neg e0]
      have := hc (j - 1) (by omega)
      rw [List.getElem?_take_of_lt (by omega), List.getElem?_drop] at this
      rwa [show 1 + (j - 1) = j by omega] at this
theorem sized_of {t e : TypeId} {len : Nat} {d : DataW H} {ts : List TypeId} {ds : List (DataW H)} {j : Nat}
    (hsz : (DataW.weightsEach P ts ds).all (· ≤ reachBytes) = true) (ht : ts[j]? = some t) (hd : ds[j]? = some d) (hu : P.underlying t = some (.slice e)) {B : Nat} (hB : P.bytesOf e = B)
    (h : (d = .nil ∧ len = 0) ∨ ∃ L1 L2, d = .slice L1 L2 ∧ L1.length = len) : len * B ≤ 140737488351232 := by
  rcases h with ⟨_, rfl⟩ | ⟨L1, L2, rfl, rfl⟩
  · simp
  · have z := sized_slice hsz ht hd hu
    rw [hB] at z
    exact Nat.le_trans (Nat.mul_le_mul_right _ (Nat.le_add_right _ _)) z
end
end Go.Proofs.YtcieonfpmchdkaaX
