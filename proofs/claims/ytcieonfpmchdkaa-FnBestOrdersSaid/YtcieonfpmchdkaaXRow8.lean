import Derived.Test.YtcieonfpmchdkaaXRow
namespace Go.Proofs.YtcieonfpmchdkaaX
open Go.ChangeShapes Go.WideShapes Go.ChangeAt Go.RowKit Go.Deep Go.Proofs.YtcieonfpmchdkaaW.PrintWords
set_option linter.unusedVariables false
section
variable {H : Type} {enc : TypeId × Value → H} {P : Program} {w : World} {base : Nat} {spare : Nat → Bool} {held : Bool}
/-- A slice of structs whose cells are whole numbers, read as a list. -/
theorem open_cells8 {α : Type} (k : Kd α) (mk : (Nat → Int) → α) (nf : Nat) (hsz : k.sz = nf) (hK : ∀ w f, k.K w (mk f) ((List.range nf).map fun j => Value.int .u8 (f j)))
    {t e : TypeId} {a : Option Addr} {len cap : Nat} {d : DataW H} {ps : List MemPlace} (ht : P.underlying t = some (.slice e)) (hC : P.cellsOf e = nf)
    (hel : ∀ (fuel : Nat) (cs : List Value) (x : DataW H × List MemPlace), DataW.trod enc P w 0 (fun _ => true) true fuel e cs = some x → ∃ f : Nat → Int, (∀ j, j < nf → (Lit.int .u8 (f j)).wf = true) ∧ ∀ j, j < nf → cs[j]? = some (Value.int .u8 (f j)))
    (h : DataW.Trod enc P w 0 (fun _ => true) true t (.slice a len cap) d ps) :
    ∃ l : List α, l.length = len ∧ len ≤ cap ∧ Kd.C k w a len l ∧ (∀ x ∈ l, ∃ f, x = mk f ∧ ∀ j, j < nf → (Lit.int .u8 (f j)).wf = true) ∧ ((d = .nil ∧ len = 0) ∨ ∃ L1 L2, d = .slice L1 L2 ∧ L1.length = len) := by
  obtain ⟨fuel, hf⟩ := h
  rcases open_slice ht hf with ⟨h0, h1⟩ | ⟨ad, l1, c1, m, n, D, Pl, hcs, hb, hl, hm, hmm, hx, hi⟩
  · simp [Value.cells] at h0
    obtain ⟨rfl, rfl, rfl⟩ := h0
    exact ⟨[], rfl, Nat.le_refl _, ⟨rfl, by omega, fun hp => absurd hp (by omega)⟩, (fun x hx => by cases hx), .inl ⟨by simpa using congrArg Prod.fst h1, rfl⟩⟩
  · simp [Value.cells] at hcs
    obtain ⟨rfl, rfl, rfl⟩ := hcs
    have hmc : m = cap := by simpa using hmm
    subst hmc
    have hq : ∀ i, i < len → ∃ f : Nat → Int, (∀ j, j < nf → (Lit.int .u8 (f j)).wf = true) ∧ ∀ j, j < nf → w.cell? (ad.add (i * nf + j)) = some (Value.int .u8 (f j)) := by
      intro i hi'
      obtain ⟨cs, hc, ht'⟩ := hi i (by omega)
      rw [hC] at hc
      obtain ⟨f, hw, hcell⟩ := hel _ _ _ ht'
      obtain ⟨_, hcl, hat⟩ := World.cells?_some hc
      refine ⟨f, hw, fun j hj => ?_⟩
      have := hat j hj
      rw [← Go.Deep.add_add, this, hcell j hj]
    obtain ⟨l, hll, hli⟩ := list_of len hq
    refine ⟨l.map mk, by simp [hll], hl, ⟨by simp [hll], by simp only [maxLen] at hm; omega, fun hp => ⟨ad, rfl, fun j p hj => ?_⟩⟩, fun x hx => ?_, .inr ⟨_, _, congrArg Prod.fst hx, by simp⟩⟩
    · rw [List.getElem?_map] at hj
      obtain ⟨f, hf', rfl⟩ := Option.map_eq_some_iff.1 hj
      obtain ⟨hjl, hfe⟩ := List.getElem?_eq_some_iff.1 hf'
      have := hli j hjl
      rw [hfe] at this
      refine ⟨_, by simp [hsz], hK w f, fun i u hu => ?_⟩
      rw [List.getElem?_map] at hu
      obtain ⟨i', hi', rfl⟩ := Option.map_eq_some_iff.1 hu
      obtain ⟨hin, hie⟩ := List.getElem?_eq_some_iff.1 hi'
      have hin' : i < nf := by simpa using hin
      have : i' = i := by simpa using hie.symm
      subst this
      rw [hsz]
      exact this.2 i' hin'
    · obtain ⟨f, hf', rfl⟩ := List.mem_map.1 hx
      obtain ⟨j, hj, rfl⟩ := List.getElem_of_mem hf'
      exact ⟨_, rfl, (hli j hj).1⟩
/-- An element's cells, where it is a whole number. -/
theorem el_int8 {e : TypeId} (he : P.underlying e = some (.int .u8)) (fuel : Nat) (cs : List Value) (x : DataW H × List MemPlace) (h : DataW.trod enc P w base spare held fuel e cs = some x) :
    ∃ f : Nat → Int, (∀ j, j < 1 → (Lit.int .u8 (f j)).wf = true) ∧ ∀ j, j < 1 → cs[j]? = some (Value.int .u8 (f j)) := by
  obtain ⟨n, rfl, _, hw⟩ := DataW.trod_int he h
  refine ⟨fun _ => n, fun _ _ => hw, fun j hj => ?_⟩
  have : j = 0 := by omega
  subst this
  rfl
end
end Go.Proofs.YtcieonfpmchdkaaX
