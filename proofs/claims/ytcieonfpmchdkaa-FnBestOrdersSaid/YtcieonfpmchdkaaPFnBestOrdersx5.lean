-- Printed by the session (wip/myprint.py).
import Derived.Test.YtcieonfpmchdkaaPFnBestOrdersx0
import Derived.Test.YtcieonfpmchdkaaPFnBestOrdersx4
namespace Go.Proofs.Ytcieonfpmchdkaa.PFnBestOrders
open Go.RowKit Go.Proofs.YtcieonfpmchdkaaW.PrintWords Go.Proofs.YtcieonfpmchdkaaW.PrintLast Go.Proofs.YtcieonfpmchdkaaW.PrintMore
attribute [local go_sem] max2_int min2_int max_two min_two max_three min_three max_four min_four   -- for this text's walks alone
set_option linter.unusedVariables false
set_option linter.unusedSimpArgs false

/-! ### a map that a closure reads: what each family's look-up says, as the rounds over the jobs leave it -/
def firstStep (f : Int → Option Int) (x : S56) : Int → Option Int := fun a => if a = x.f0 then (match f a with | none => some x.f2 | some d => if x.f2 < d then some x.f2 else some d) else f a
def firstM (l : List S56) : Int → Option Int := l.foldl firstStep (fun _ => none)
theorem firstM_snoc (p : List S56) (x : S56) : firstM (p ++ [x]) = firstStep (firstM p) x := by simp [firstM, List.foldl_append]
def mapAt.f (a : Int) (l : List S56) : Option Int := if (Lit.int .i64 a).wf = true then some ((firstM l a).getD 0) else none
theorem mapKeyed : Go.Maps.Keyed Try.prog 2 := Go.Maps.int_keyed Try.underlying2
theorem mapZero (w : World) : (zeroValue 2).run Try.prog w = .ok (.int .i64 0) w := by kernel_rfl
/-- The map reads as the least due times. -/
def MapSays (D : DataW Unit) (l : List S56) : Prop := Go.Maps.IsMap D ∧ ∀ a : Int, D.atKey (.int .i64 a) (.lit (.int .i64 0)) = .lit (.int .i64 ((firstM l a).getD 0)) ∧ Go.Maps.has D (.int .i64 a) = (firstM l a).isSome
theorem mapSays_nil : MapSays (.map []) [] := ⟨Go.Maps.isMap_empty, fun a => ⟨rfl, rfl⟩⟩
/-- A round that stores. -/
theorem mapSays_put {D : DataW Unit} {p : List S56} (h : MapSays D p) (x : S56) (hs : firstM p x.f0 = none ∨ ∃ d, firstM p x.f0 = some d ∧ x.f2 < d) : MapSays (D.put (.int .i64 x.f0) (.lit (.int .i64 x.f2))) (p ++ [x]) := by
 refine ⟨h.1.put _ _, fun a => ?_⟩
 have e : firstM (p ++ [x]) a = if a = x.f0 then some x.f2 else firstM p a := by
  rw [firstM_snoc]
  unfold firstStep
  by_cases ha : a = x.f0
  ·
   subst ha
   rcases hs with hs | ⟨d, hs, hd⟩
   ·
    simp [hs]
   ·
    simp [hs, hd]
  ·
   simp [ha]
 by_cases ha : a = x.f0
 ·
  subst ha
  rw [if_pos rfl] at e
  rw [e, Go.Maps.atKey_put_same h.1 (by trivial), Go.Maps.has_put_same h.1 (by trivial)]
  exact ⟨rfl, rfl⟩
 ·
  rw [if_neg ha] at e
  have hne : (Lit.int .i64 a) ≠ (Lit.int .i64 x.f0) := fun h2 => ha (by injection h2)
  rw [e, Go.Maps.atKey_put_other hne, Go.Maps.has_put_other hne]
  exact h.2 a
/-- A round that stores nothing. -/
theorem mapSays_stay {D : DataW Unit} {p : List S56} (h : MapSays D p) (x : S56) {d : Int} (hs : firstM p x.f0 = some d) (hd : ¬ x.f2 < d) : MapSays D (p ++ [x]) := by
 refine ⟨h.1, fun a => ?_⟩
 have e : firstM (p ++ [x]) a = firstM p a := by
  rw [firstM_snoc]
  unfold firstStep
  by_cases ha : a = x.f0
  ·
   subst ha
   simp [hs, hd]
  ·
   simp [ha]
 rw [e]
 exact h.2 a
def MapOwn (w : World) (b : Nat) (l : List S56) : Prop := ∃ n D, n ≤ l.length ∧ w.ownsMap Try.prog 2 (plainElem (H := Unit) Try.prog 2) b n D ∧ MapSays D l
def MapAt (w : World) (cq : Addr) (l : List S56) : Prop := ∃ b, w.cell? cq = some (.map (some b)) ∧ MapOwn w b l
theorem mapOwn_same {w W : World} {b : Nat} {l : List S56} (h : MapOwn w b l) (hs : ∀ k, k < w.heap.size → W.heap[k]? = w.heap[k]?) : MapOwn W b l := by
 obtain ⟨n, D, hnl, ho, hd⟩ := h
 have hlt := ho.lt
 obtain ⟨es, clock, hb, F, hn, hD⟩ := ho
 exact ⟨n, D, hnl, ⟨es, clock, (hs b hlt).trans hb, F, hn, hD⟩, hd⟩
theorem mapOwn_below {w W : World} {b : Nat} {l : List S56} (h : MapOwn w b l) (hb : Below w.heap.size w W) : MapOwn W b l := mapOwn_same h (fun k hk => hb.block k hk)
theorem mapAt_same {w W : World} {cq : Addr} {l : List S56} (h : MapAt w cq l) (hs : ∀ k, k < w.heap.size → W.heap[k]? = w.heap[k]?) : MapAt W cq l := by
 obtain ⟨b, hc, ho⟩ := h
 have := hs cq.block (World.block_lt_of_cell? w cq hc)
 exact ⟨b, by simpa [World.cell?, this] using hc, mapOwn_same ho hs⟩
theorem mapAt_kept {w W W2 : World} {cq : Addr} {l : List S56} {S : Nat → Prop} (h : MapAt w cq l) (hb : Below w.heap.size w W) (hk : Kept W W2 S) (hS : ∀ k, S k → w.heap.size ≤ k) : MapAt W2 cq l :=
 mapAt_same h (fun k hlt => (hk.2 k (Nat.lt_of_lt_of_le hlt hb.size) (fun hs => by have := hS k hs; omega)).trans (hb.block k hlt))
theorem lit_inj {a b : Int} (h : (DataW.lit (.int .i64 a) : DataW Unit) = .lit (.int .i64 b)) : a = b := by
 injection h with h
 injection h
theorem map_look {w : World} {b : Nat} {l : List S56} {a r : Int} (h : MapOwn w b l) (hf : mapAt.f a l = some r) : (Instr.lookup 66 (.map (some b)) (.int .i64 a) false).run Try.prog w = .ok (.int .i64 r) w := by
 obtain ⟨n, D, _, ho, hd⟩ := h
 unfold mapAt.f at hf
 by_cases hw : (Lit.int .i64 a).wf = true
 case neg => rw [if_neg hw] at hf; cases hf
 rw [if_pos hw] at hf
 obtain rfl := Option.some.inj hf
 obtain ⟨c, hrun, hat, _⟩ := ho.lookup_int mapKeyed Try.underlying66 Try.underlying2 (mapZero w) (key := .int .i64 a) (Go.Maps.keyOf_int_mk Try.underlying2 hw)
 rw [(hd.2 a).1] at hat
 rw [lit_inj hat]
 exact hrun
section
variable {P : Program} {ops : Array Oper} {Q : Exit → Act → World → Prop}
/-- A look-up in a map, in a region that draws. -/
theorem look_step {oi : Oper} {N : Option Tmp} {a : Act} {w : World} {K : Act → World → Prop} {t : TypeId} {m x : Operand} (hw : Region.wanted oi (yielded ops a.tmps) = true) (hN : oi.dst = N) (hop : oi.op = Op.lookup t m x false) (mv xv v : Value) (hm : a.eval m = mv) (hx : a.eval x = xv)
  (hrun : (Instr.lookup t mv xv false).run P w = .ok v w) (h : K (a.put N v) w) : if Region.wanted oi (yielded ops a.tmps) = true then Oper.wp P oi a w K Q else K (a.put N undef) w :=
 value_ hw hN (by unfold execOp; simp [hop, hm, hx, hrun, Result.andThen]) h
/-- A look-up that tells whether the key is there. -/
theorem wpList_mapLook {w : World} {rest : List Oper} {o : Oper} {a : Act} {Q : Exit → Act → World → Prop} {b : Nat} {l : List S56} (h : MapOwn w b l) (hg : o.guard = none) (m x : Operand) (hop : o.op = Op.lookup 66 m x true) (key : Int) (hm : a.eval m = .map (some b)) (hx : a.eval x = .int .i64 key) (hw : (Lit.int .i64 key).wf = true)
  (c : Int) (bb : Bool) (hc : (firstM l key).getD 0 = c) (hb : (firstM l key).isSome = bb) (hK : wpList Try.prog ops Q rest (a.put o.dst (.tuple #[.int .i64 c, .bool bb])) w) : wpList Try.prog ops Q (o :: rest) a w := by
 obtain ⟨n, D, _, ho, hd⟩ := h
 refine wpList_lookup_own_ok_int w hg m x 66 hop 2 2 .i64 mapKeyed Try.underlying66 Try.underlying2 (mapZero w) b n D hm ho (.int .i64 key) (.int .i64 key) hx (Go.Maps.keyOf_int_mk Try.underlying2 hw) ?_
 intro c' hat _
 rw [(hd.2 key).1] at hat
 rw [← lit_inj hat, (hd.2 key).2, hc, hb]
 exact hK
/-- A store into the map. -/
theorem wpList_mapStore {w : World} {rest : List Oper} {o : Oper} {a : Act} {Q : Exit → Act → World → Prop} {b : Nat} {p : List S56} (h : MapOwn w b p) (x : S56) (hs : firstM p x.f0 = none ∨ ∃ d, firstM p x.f0 = some d ∧ x.f2 < d) (hw0 : (Lit.int .i64 x.f0).wf = true) (hw2 : (Lit.int .i64 x.f2).wf = true) (hn : p.length < maxLen)
  (hg : o.guard = none) (m kx vx : Operand) (hop : o.op = Op.mapUpdate 66 m kx vx) (hm : a.eval m = .map (some b)) (hx : a.eval kx = .int .i64 x.f0) (hv : a.eval vx = .int .i64 x.f2) (hK : ∀ w', MapOwn w' b (p ++ [x]) → w.grownBy w' (some b) → wpList Try.prog ops Q rest (a.put o.dst undef) w') : wpList Try.prog ops Q (o :: rest) a w := by
 obtain ⟨n, D, hnl, ho, hd⟩ := h
 refine wpList_mapUpdate_own w hg m kx vx 66 hop 2 2 mapKeyed Try.underlying66 _ b n D hm ho (Nat.lt_of_le_of_lt hnl hn) (.int .i64 x.f0) (.int .i64 x.f2) (.int .i64 x.f0) hx hv (Go.Maps.keyOf_int_mk Try.underlying2 hw0) (.lit (.int .i64 x.f2)) [] (plainElem_int Try.underlying2 hw2) ?_
 intro w' ho' hg'
 exact hK w' ⟨n + 1, _, by simp; omega, ho', mapSays_put hd x hs⟩ hg'
theorem mapOwn_stay {w : World} {b : Nat} {p : List S56} (h : MapOwn w b p) (x : S56) {d : Int} (hs : firstM p x.f0 = some d) (hd : ¬ x.f2 < d) : MapOwn w b (p ++ [x]) := by
 obtain ⟨n, D, hnl, ho, hm⟩ := h
 exact ⟨n, D, by simp; omega, ho, mapSays_stay hm x hs hd⟩
theorem mapOwn_set {w : World} {b : Nat} {p : List S56} (h : MapOwn w b p) {a : Addr} (hne : b ≠ a.block) (u : Value) : MapOwn (w.setCell a u) b p := by
 obtain ⟨n, D, hn, ⟨es, clock, hb, F, hs, hD⟩, hm⟩ := h
 exact ⟨n, D, hn, ⟨es, clock, (Below.heap_setCell w a u b hne).trans hb, F, hs, hD⟩, hm⟩
theorem mapOwn_lt {w : World} {b : Nat} {p : List S56} (h : MapOwn w b p) : b < w.heap.size := by
 obtain ⟨n, D, _, ho, _⟩ := h
 exact ho.lt
end

/-! ### impl_FamilyOrder_1: function 46 -/
def impl_FamilyOrder_1.f (k : Nat) (a0 : Int) (a1 : Int) (l2 : List (S56)) : Option (Int) := if 0 ≤ a0 then (if a0 < (l2.length : Int) then (if 0 ≤ a1 then (if a1 < (l2.length : Int) then ((mapAt.f ((rd_T56 l2 a0).f0) l2).bind fun t188 => ((mapAt.f ((rd_T56 l2 a1).f0) l2).bind fun t189 => ((cmp_Compare_int64.f t188 t189).bind fun t190 => ((cmp_Compare_int64.f ((rd_T56 l2 a0).f0) ((rd_T56 l2 a1).f0)).bind fun t191 => ((cmp_Compare_int64.f ((rd_T56 l2 a0).f2) ((rd_T56 l2 a1).f2)).bind fun t192 => ((cmp_Or_int.f k (([t190, t191, t192] : List Int))).bind fun t196 => (some t196))))))) else (none)) else (none)) else (none)) else (none)
theorem impl_FamilyOrder_1.mono : ∀ a0 a1 a2 k, LeO (impl_FamilyOrder_1.f k a0 a1 a2) (impl_FamilyOrder_1.f (k + 1) a0 a1 a2) := by
 intro a0 a1 a2 k
 unfold impl_FamilyOrder_1.f
 repeat' first
   | (with_reducible exact cmp_Or_int.mono _ _)
   | (with_reducible exact LeO.refl _)
   | (with_reducible exact LeO.none _)
   | (with_reducible refine LeO.ite ?_ ?_)
   | (with_reducible refine LeO.bind ?_ (fun _ => ?_))
   | exact cmp_Or_int.mono _ _
   | exact LeO.none _
   | refine LeO.ite ?_ ?_
   | refine LeO.bind ?_ (fun _ => ?_)
def impl_FamilyOrder_1.T1 : Bool × List (List Nat × List Nat) := (true, [([], []), ([], []), ([0, 1], [0, 1]), ([2], [2]), ([], []), ([], []), ([4, 5], [4, 5]), ([6], [6]), ([], []), ([], []), ([8, 3, 0, 1, 2, 3, 8, 9], [3, 8]), ([9, 7, 10, 0, 1, 2, 3, 4, 5, 6, 7, 8, 9, 10], [7, 9])])
def impl_FamilyOrder_1.B1 : List Nat := [0, 0, 3, 7, 0, 0, 48, 112, 0, 0, 783, 2047]
theorem impl_FamilyOrder_1.tab1 : rtab .any (opsOf Try.f46 1) = impl_FamilyOrder_1.T1 := by kernel_rfl
theorem impl_FamilyOrder_1.bits1 : waitsOk impl_FamilyOrder_1.T1.2 impl_FamilyOrder_1.B1 = true := by kernel_rfl
def impl_FamilyOrder_1.T2 : Bool × List (List Nat × List Nat) := (true, [([], []), ([], []), ([1], [1]), ([0, 2], [0, 2]), ([], []), ([], []), ([5], [5]), ([4, 6], [4, 6]), ([3, 7], [3, 7]), ([], []), ([9], [9]), ([], []), ([11], [11]), ([10, 12, 8], [10, 12]), ([], []), ([14], [14]), ([], []), ([16], [16]), ([15, 17, 13], [15, 17]), ([8, 13, 18], [8, 13, 18]), ([19, 18], [19]), ([20, 20, 0, 1, 2, 3, 4, 5, 6, 7, 8, 9, 10, 11, 12, 13, 14, 15, 16, 17, 18, 19, 20], [20])])
def impl_FamilyOrder_1.B2 : List Nat := [0, 0, 2, 7, 0, 0, 32, 112, 255, 0, 512, 0, 2048, 8191, 0, 16384, 0, 65536, 262143, 524287, 1048575, 2097151]
theorem impl_FamilyOrder_1.tab2 : rtab .any (opsOf Try.f46 2) = impl_FamilyOrder_1.T2 := by kernel_rfl
theorem impl_FamilyOrder_1.bits2 : waitsOk impl_FamilyOrder_1.T2.2 impl_FamilyOrder_1.B2 = true := by kernel_rfl
set_option maxHeartbeats 8000000 in
set_option maxRecDepth 100000 in
theorem impl_FamilyOrder_1.calls (k : Nat) (a0 : Int) (a1 : Int) (cp2 cq2 : Addr) (A2 : Option Addr) (c2 : Nat) (l2 : List (S56)) (r : Int) (w : World) (hr2 : Kd.C k56 w A2 l2.length l2) (hc2 : l2.length ≤ c2) (hcp2 : w.cell? cp2 = some (.slice A2 l2.length c2)) (hcq2 : MapAt w cq2 l2) (h : impl_FamilyOrder_1.f k a0 a1 l2 = some r) :
  Calls Try.prog 46 #[.int .i64 a0, .int .i64 a1, .pointer (some cp2), .pointer (some cq2)] w fun e w' => e = .returned (.int .i64 r) ∧ Below w.heap.size w w' := by
 obtain ⟨bq2, hcq2_, hmq2_⟩ := hcq2
 have HCQ2 := Aside0.mk hcq2_
 have HMQ2 := Aside0.mk hmq2_
 clear hcq2_ hmq2_
 have HCP2 := Aside0.mk hcp2
 clear hcp2
 have hcx2 := HCP2.out
 have hu56 := Try.underlying56
 have HR2 := Aside0.mk hr2
 have HC2 := Aside0.mk hc2
 clear hr2 hc2
 have HB := Aside0.mk (Below.refl w.heap.size w)
 have H : (if 0 ≤ a0 then (if a0 < (l2.length : Int) then (if 0 ≤ a1 then (if a1 < (l2.length : Int) then ((mapAt.f ((rd_T56 l2 a0).f0) l2).bind fun t188 => ((mapAt.f ((rd_T56 l2 a1).f0) l2).bind fun t189 => ((cmp_Compare_int64.f t188 t189).bind fun t190 => ((cmp_Compare_int64.f ((rd_T56 l2 a0).f0) ((rd_T56 l2 a1).f0)).bind fun t191 => ((cmp_Compare_int64.f ((rd_T56 l2 a0).f2) ((rd_T56 l2 a1).f2)).bind fun t192 => ((cmp_Or_int.f k (([t190, t191, t192] : List Int))).bind fun t196 => (some t196))))))) else (none)) else (none)) else (none)) else (none)) = some r := h
 clear h
 by_cases c4 : 0 ≤ a0
 ·
  rw [if_pos c4] at H
  have c4b0 : decide (0 ≤ a0) = true := decide_eq_true c4
  clear c4
  by_cases c5 : a0 < (l2.length : Int)
  ·
   rw [if_pos c5] at H
   have c5b0 : decide (a0 < (l2.length : Int)) = true := decide_eq_true c5
   clear c5
   by_cases c6 : 0 ≤ a1
   ·
    rw [if_pos c6] at H
    have c6b0 : decide (0 ≤ a1) = true := decide_eq_true c6
    clear c6
    by_cases c7 : a1 < (l2.length : Int)
    ·
     rw [if_pos c7] at H
     have c7b0 : decide (a1 < (l2.length : Int)) = true := decide_eq_true c7
     clear c7
     replace H := Option.bind_eq_some_iff.mp H
     obtain ⟨t188, A80, H⟩ := H
     (try dsimp only at H)
     have A8 := Aside0.mk A80
     clear A80
     replace H := Option.bind_eq_some_iff.mp H
     obtain ⟨t189, A90, H⟩ := H
     (try dsimp only at H)
     have A9 := Aside0.mk A90
     clear A90
     replace H := Option.bind_eq_some_iff.mp H
     obtain ⟨t190, A100, H⟩ := H
     (try dsimp only at H)
     have A10 := Aside0.mk A100
     clear A100
     replace H := Option.bind_eq_some_iff.mp H
     obtain ⟨t191, A110, H⟩ := H
     (try dsimp only at H)
     have A11 := Aside0.mk A110
     clear A110
     replace H := Option.bind_eq_some_iff.mp H
     obtain ⟨t192, A120, H⟩ := H
     (try dsimp only at H)
     have A12 := Aside0.mk A120
     clear A120
     obtain ⟨y193, hy193⟩ : ∃ y_ : List Int, y_ = (([t190, t191, t192] : List Int)) := ⟨_, rfl⟩
     replace H : ((cmp_Or_int.f k y193).bind fun t196 => (some t196)) = some r := by first | (rw [hy193]; with_reducible exact H) | (have H2_ := (Option.bind_some _ _).symm.trans H; rw [hy193]; with_reducible exact H2_) | (have H2_ := (Option.bind_some _ _).symm.trans H; with_reducible exact H2_) | with_reducible exact H | (rw [hy193]; exact H) | exact H
     have Ny193 := Aside0.mk hy193
     clear hy193
     replace H := Option.bind_eq_some_iff.mp H
     obtain ⟨t196, A130, H⟩ := H
     (try dsimp only at H)
     have A13 := Aside0.mk A130
     clear A130
     obtain rfl := Option.some.inj H
     go_enter Try.func46, Try.ntmps46
     try go_wp2
     have n0_ := Aside0.mk (bW_ HB.out)
     clear HB
     have HB := n0_
     clear n0_
     have p184 : 0 ≤ (a0 : Int) := of_decide_eq_true (by first | (with_reducible assumption) | assumption)
     have q184 : a0 < (l2.length : Int) := of_decide_eq_true (by first | (with_reducible assumption) | assumption)
     obtain ⟨ad184, e184, hx184_0, hx184_1, hx184_2⟩ := at_T56 HR2.out a0 p184 q184
     have hw184_2 := hx184_2
     have hw184_1 := hx184_1
     have hw184_0 := hx184_0
     cases e184
     replace hx184_0 := (HB.out.cell (World.block_lt_of_cell? _ _ hx184_0)).trans hx184_0
     replace hx184_1 := (HB.out.cell (World.block_lt_of_cell? _ _ hx184_1)).trans hx184_1
     replace hx184_2 := (HB.out.cell (World.block_lt_of_cell? _ _ hx184_2)).trans hx184_2
     replace p184 := eq_true p184
     replace q184 := eq_true q184
     have p185 : 0 ≤ (a1 : Int) := of_decide_eq_true (by first | (with_reducible assumption) | assumption)
     have q185 : a1 < (l2.length : Int) := of_decide_eq_true (by first | (with_reducible assumption) | assumption)
     obtain ⟨ad185, e185, hx185_0, hx185_1, hx185_2⟩ := at_T56 HR2.out a1 p185 q185
     have hw185_2 := hx185_2
     have hw185_1 := hx185_1
     have hw185_0 := hx185_0
     obtain rfl : ad184 = ad185 := (by injection e185)
     replace hx185_0 := (HB.out.cell (World.block_lt_of_cell? _ _ hx185_0)).trans hx185_0
     replace hx185_1 := (HB.out.cell (World.block_lt_of_cell? _ _ hx185_1)).trans hx185_1
     replace hx185_2 := (HB.out.cell (World.block_lt_of_cell? _ _ hx185_2)).trans hx185_2
     replace p185 := eq_true p185
     replace q185 := eq_true q185
     refine start_ (n := 12) (S := fun w' => w'.cell? (ad184.add ((a0).toNat * 3)) = some (.int .i64 ((rd_T56 l2 a0).f0)) ∧ w'.cell? ⟨(ad184.add ((a0).toNat * 3)).block, (ad184.add ((a0).toNat * 3)).off + 1, none⟩ = some (.int .i64 ((rd_T56 l2 a0).f1)) ∧ w'.cell? ⟨(ad184.add ((a0).toNat * 3)).block, (ad184.add ((a0).toNat * 3)).off + 2, none⟩ = some (.int .i64 ((rd_T56 l2 a0).f2)) ∧ w'.cell? (ad184.add ((a1).toNat * 3)) = some (.int .i64 ((rd_T56 l2 a1).f0)) ∧ w'.cell? ⟨(ad184.add ((a1).toNat * 3)).block, (ad184.add ((a1).toNat * 3)).off + 1, none⟩ = some (.int .i64 ((rd_T56 l2 a1).f1)) ∧ w'.cell? ⟨(ad184.add ((a1).toNat * 3)).block, (ad184.add ((a1).toNat * 3)).off + 2, none⟩ = some (.int .i64 ((rd_T56 l2 a1).f2)) ∧ w'.cell? cp2 = some (.slice (some ad184) l2.length c2)) (ds := []) #[false, false, false, false, false, false, false, false, false, false, false, false] (by kernel_rfl) rfl rfl ⟨((HB.out.cell (World.block_lt_of_cell? _ _ hw184_0)).trans hw184_0), ((HB.out.cell (World.block_lt_of_cell? _ _ hw184_1)).trans hw184_1), ((HB.out.cell (World.block_lt_of_cell? _ _ hw184_2)).trans hw184_2), ((HB.out.cell (World.block_lt_of_cell? _ _ hw185_0)).trans hw185_0), ((HB.out.cell (World.block_lt_of_cell? _ _ hw185_1)).trans hw185_1), ((HB.out.cell (World.block_lt_of_cell? _ _ hw185_2)).trans hw185_2), ((HB.out.cell (World.block_lt_of_cell? _ _ HCP2.out)).trans HCP2.out)⟩ (fun hHeld => ?_); refine with_tabW impl_FamilyOrder_1.tab1 impl_FamilyOrder_1.bits1 (fun HT_ HW_ => ?_)
     generalize w.drew = w14 at HB hx184_0 hx184_1 hx184_2 hx185_0 hx185_1 hx185_2 hHeld ⊢
     refine take_ (i := 0) (N := some 9) (v := ?_) (a' := ?_) #[true, false, false, false, false, false, false, false, false, false, false, false] rfl rfl (take_ofW HT_.out HW_.out (by kernel_rfl)) (fun _ _ _ h => h) (Or.inl ⟨by rfl, ?_⟩) hHeld ?_ ?_
     rotate_left
     ·
      rintro w' ⟨s0, s1, s2, s3, s4, s5, sb_⟩
      go_simp
      with_reducible rfl
     rotate_left
     ·
      simp only [Act.put, lS_, lZ_, lC_, i64_w, i32_w]
      rfl
     refine pure_ (i := 1) (N := some 10) (v := ?_) (a' := ?_) #[true, true, false, false, false, false, false, false, false, false, false, false] rfl rfl (any_of HT_.out (by kernel_rfl)) (fun _ _ _ h => h) (Or.inl ⟨by rfl, ?_⟩) ?_ ?_
     rotate_left
     ·
      intro w'
      go_simp
      with_reducible rfl
     rotate_left
     ·
      simp only [Act.put, lS_, lZ_, lC_, i64_w, i32_w]
      rfl
     refine pure_ (i := 2) (N := some 11) (v := ?_) (a' := ?_) #[true, true, true, false, false, false, false, false, false, false, false, false] rfl rfl (any_of HT_.out (by kernel_rfl)) (fun _ _ _ h => h) (Or.inl ⟨by rfl, ?_⟩) ?_ ?_
     rotate_left
     ·
      intro w'
      go_simp
      with_reducible rfl
     rotate_left
     ·
      simp only [Act.put, lS_, lZ_, lC_, i64_w, i32_w]
      rfl
     refine take_ (i := 4) (N := some 13) (v := ?_) (a' := ?_) #[true, true, true, false, true, false, false, false, false, false, false, false] rfl rfl (take_ofW HT_.out HW_.out (by kernel_rfl)) (fun _ _ _ h => h) (Or.inl ⟨by rfl, ?_⟩) hHeld ?_ ?_
     rotate_left
     ·
      rintro w' ⟨s0, s1, s2, s3, s4, s5, sb_⟩
      go_simp
      with_reducible rfl
     rotate_left
     ·
      simp only [Act.put, lS_, lZ_, lC_, i64_w, i32_w]
      rfl
     refine pure_ (i := 5) (N := some 14) (v := ?_) (a' := ?_) #[true, true, true, false, true, true, false, false, false, false, false, false] rfl rfl (any_of HT_.out (by kernel_rfl)) (fun _ _ _ h => h) (Or.inl ⟨by rfl, ?_⟩) ?_ ?_
     rotate_left
     ·
      intro w'
      go_simp
      with_reducible rfl
     rotate_left
     ·
      simp only [Act.put, lS_, lZ_, lC_, i64_w, i32_w]
      rfl
     refine pure_ (i := 6) (N := some 15) (v := ?_) (a' := ?_) #[true, true, true, false, true, true, true, false, false, false, false, false] rfl rfl (any_of HT_.out (by kernel_rfl)) (fun _ _ _ h => h) (Or.inl ⟨by rfl, ?_⟩) ?_ ?_
     rotate_left
     ·
      intro w'
      go_simp
      with_reducible rfl
     rotate_left
     ·
      simp only [Act.put, lS_, lZ_, lC_, i64_w, i32_w]
      rfl
     refine take_ (i := 3) (N := some 12) (v := ?_) (a' := ?_) #[true, true, true, true, true, true, true, false, false, false, false, false] rfl rfl (take_ofW HT_.out HW_.out (by kernel_rfl)) (fun _ _ _ h => h) (Or.inl ⟨by rfl, ?_⟩) hHeld ?_ ?_
     rotate_left
     ·
      rintro w' ⟨s0, s1, s2, s3, s4, s5, sb_⟩
      go_simp
      with_reducible rfl
     rotate_left
     ·
      simp only [Act.put, lS_, lZ_, lC_, i64_w, i32_w]
      rfl
     refine take_ (i := 7) (N := some 16) (v := ?_) (a' := ?_) #[true, true, true, true, true, true, true, true, false, false, false, false] rfl rfl (take_ofW HT_.out HW_.out (by kernel_rfl)) (fun _ _ _ h => h) (Or.inl ⟨by rfl, ?_⟩) hHeld ?_ ?_
     rotate_left
     ·
      rintro w' ⟨s0, s1, s2, s3, s4, s5, sb_⟩
      go_simp
      with_reducible rfl
     rotate_left
     ·
      simp only [Act.put, lS_, lZ_, lC_, i64_w, i32_w]
      rfl
     refine join_ (σ := Nat × Nat) 2 #[true, true, true, true, true, true, true, true, true, true, false, false] (fun s_ => [(7, .pointer (some ⟨s_.1, 0, none⟩)), (8, .pointer (some ⟨s_.2, 0, none⟩))]) (fun s_ w' => (w'.cell? (ad184.add ((a0).toNat * 3)) = some (.int .i64 ((rd_T56 l2 a0).f0)) ∧ w'.cell? ⟨(ad184.add ((a0).toNat * 3)).block, (ad184.add ((a0).toNat * 3)).off + 1, none⟩ = some (.int .i64 ((rd_T56 l2 a0).f1)) ∧ w'.cell? ⟨(ad184.add ((a0).toNat * 3)).block, (ad184.add ((a0).toNat * 3)).off + 2, none⟩ = some (.int .i64 ((rd_T56 l2 a0).f2)) ∧ w'.cell? (ad184.add ((a1).toNat * 3)) = some (.int .i64 ((rd_T56 l2 a1).f0)) ∧ w'.cell? ⟨(ad184.add ((a1).toNat * 3)).block, (ad184.add ((a1).toNat * 3)).off + 1, none⟩ = some (.int .i64 ((rd_T56 l2 a1).f1)) ∧ w'.cell? ⟨(ad184.add ((a1).toNat * 3)).block, (ad184.add ((a1).toNat * 3)).off + 2, none⟩ = some (.int .i64 ((rd_T56 l2 a1).f2)) ∧ w'.cell? cp2 = some (.slice (some ad184) l2.length c2)) ∧ (w'.heap[s_.1]? = some (.cells #[.int .i64 0, .int .i64 0, .int .i64 0] 56 (0, 0))) ∧ (w'.heap[s_.2]? = some (.cells #[.int .i64 0, .int .i64 0, .int .i64 0] 56 (0, 0))) ∧ (w.heap.size ≤ s_.1) ∧ (w.heap.size ≤ s_.1) ∧ (s_.2 ≠ s_.1) ∧ (s_.1 ≠ s_.2) ∧ (w.heap.size ≤ s_.2) ∧ (w.heap.size ≤ s_.2) ∧ (Below w.heap.size w w')) ?_ ?_
     rotate_left
     ·
      intro hCont
      refine two_ (i := 8) (j := 9) (Ni := some 7) (Nj := some 8) #[true, true, true, true, true, true, true, true, true, false, false, false] #[true, true, true, true, true, true, true, true, false, true, false, false] rfl rfl rfl rfl (two_of HT_.out (by kernel_rfl)) (by decide) (by decide) (fun K hK => ?_) (fun K hK => ?_)
      ·
       skip
       refine box_step ?hg (N := 7) ?hd (cs := #[.int .i64 0, .int .i64 0, .int .i64 0]) (t := 56) ?hr ?_; (case hd => rfl); (case hg => rfl); (case hr => first | (go_simp; done) | (go_simp; rfl))
       intro gb186 hg w15 hbox hb
       have n0_ := Aside0.mk (below_step (by repeat (first | (with_reducible first | exact HB.out | apply bA_ | apply bN_ | apply bW_) | exact HB.out)) hb)
       have n1_ := Aside0.mk (hbox)
       have n2_ := Aside0.mk ((by rw [hg]; exact (below_size (by repeat (first | (with_reducible first | exact HB.out | apply bA_ | apply bN_ | apply bW_) | exact HB.out))) : w.heap.size ≤ gb186))
       have n3_ := Aside0.mk ((by rw [hg]; exact (below_size (by repeat (first | (with_reducible first | exact HB.out | apply bA_ | apply bN_ | apply bW_) | exact HB.out))) : w.heap.size ≤ gb186))
       clear HB
       have HB := n0_
       have BK186 := n1_
       have GW186 := n2_
       have GE186 := n3_
       clear n0_ n1_ n2_ n3_
       clear hb hbox hg
       refine hK.out _ _ ⟨((HB.out.cell (World.block_lt_of_cell? _ _ hw184_0)).trans hw184_0), ((HB.out.cell (World.block_lt_of_cell? _ _ hw184_1)).trans hw184_1), ((HB.out.cell (World.block_lt_of_cell? _ _ hw184_2)).trans hw184_2), ((HB.out.cell (World.block_lt_of_cell? _ _ hw185_0)).trans hw185_0), ((HB.out.cell (World.block_lt_of_cell? _ _ hw185_1)).trans hw185_1), ((HB.out.cell (World.block_lt_of_cell? _ _ hw185_2)).trans hw185_2), ((HB.out.cell (World.block_lt_of_cell? _ _ HCP2.out)).trans HCP2.out)⟩ (fun hHeld => ?_)
       clear hK K
       refine norm_ (a' := ?_) ?_ ?_
       rotate_left
       ·
        show Act.put _ (some 7) _ = _
        simp only [Act.put, lS_, lZ_, lC_, i64_w, i32_w]
        rfl
       refine one_ (i := 9) (N := some 8) #[true, true, true, true, true, true, true, true, true, true, false, false] rfl rfl (one_of HT_.out (by kernel_rfl)) (by decide) (fun K hK => ?_)
       refine box_step ?hg (N := 8) ?hd (cs := #[.int .i64 0, .int .i64 0, .int .i64 0]) (t := 56) ?hr ?_; (case hd => rfl); (case hg => rfl); (case hr => first | (go_simp; done) | (go_simp; rfl))
       intro gb187 hg w16 hbox hb
       have n0_ := Aside0.mk (blk_below (g := gb186) (o := .cells #[.int .i64 0, .int .i64 0, .int .i64 0] 56 (0, 0)) (by (with_reducible repeat (first | refine blk_drewN ?_ _ | refine blk_drew ?_ | refine blk_alloc ?_ _)); exact BK186.out) hb)
       have n1_ := Aside0.mk (below_step (by repeat (first | (with_reducible first | exact HB.out | apply bA_ | apply bN_ | apply bW_ | refine below_set ?_ GE186.out) | exact HB.out)) hb)
       have n2_ := Aside0.mk (hbox)
       have n3_ := Aside0.mk ((by rw [hg]; exact (below_size (by repeat (first | (with_reducible first | exact HB.out | apply bA_ | apply bN_ | apply bW_ | refine below_set ?_ GE186.out) | exact HB.out))) : w.heap.size ≤ gb187))
       have n4_ := Aside0.mk ((by rw [hg]; exact (below_size (by repeat (first | (with_reducible first | exact HB.out | apply bA_ | apply bN_ | apply bW_ | refine below_set ?_ GE186.out) | exact HB.out))) : w.heap.size ≤ gb187))
       have n5_ := Aside0.mk ((by rw [hg]; exact Nat.ne_of_lt (blk_lt (g := gb186) (o := .cells #[.int .i64 0, .int .i64 0, .int .i64 0] 56 (0, 0)) (by (with_reducible repeat (first | refine blk_drewN ?_ _ | refine blk_drew ?_ | refine blk_alloc ?_ _)); exact BK186.out)) : gb186 ≠ gb187))
       have n6_ := Aside0.mk ((by rw [hg]; exact Nat.ne_of_gt (blk_lt (g := gb186) (o := .cells #[.int .i64 0, .int .i64 0, .int .i64 0] 56 (0, 0)) (by (with_reducible repeat (first | refine blk_drewN ?_ _ | refine blk_drew ?_ | refine blk_alloc ?_ _)); exact BK186.out)) : gb187 ≠ gb186))
       clear BK186
       clear HB
       have BK186 := n0_
       have HB := n1_
       have BK187 := n2_
       have GW187 := n3_
       have GE187 := n4_
       have NB186_187 := n5_
       have NB187_186 := n6_
       clear n0_ n1_ n2_ n3_ n4_ n5_ n6_
       clear hb hbox hg
       refine hK.out _ _ ⟨((HB.out.cell (World.block_lt_of_cell? _ _ hw184_0)).trans hw184_0), ((HB.out.cell (World.block_lt_of_cell? _ _ hw184_1)).trans hw184_1), ((HB.out.cell (World.block_lt_of_cell? _ _ hw184_2)).trans hw184_2), ((HB.out.cell (World.block_lt_of_cell? _ _ hw185_0)).trans hw185_0), ((HB.out.cell (World.block_lt_of_cell? _ _ hw185_1)).trans hw185_1), ((HB.out.cell (World.block_lt_of_cell? _ _ hw185_2)).trans hw185_2), ((HB.out.cell (World.block_lt_of_cell? _ _ HCP2.out)).trans HCP2.out)⟩ (fun hHeld => ?_)
       clear hK K
       refine norm_ (a' := ?_) ?_ ?_
       rotate_left
       ·
        show Act.put _ (some 8) _ = _
        simp only [Act.put, lS_, lZ_, lC_, i64_w, i32_w]
        rfl
       exact norm_ (by simp only [putAll, Act.put, lS_, lZ_, lC_]) (hCont (gb186, gb187) _ ⟨hHeld, (by (with_reducible repeat (first | refine blk_drewN ?_ _ | refine blk_drew ?_ | refine blk_alloc ?_ _)); exact BK186.out), (by (with_reducible repeat (first | refine blk_drewN ?_ _ | refine blk_drew ?_ | refine blk_alloc ?_ _)); exact BK187.out), GW186.out, GE186.out, NB187_186.out, NB186_187.out, GW187.out, GE187.out, (by repeat (first | (with_reducible first | exact HB.out | apply bA_ | apply bN_ | apply bW_ | refine below_set ?_ GE186.out | refine below_set ?_ GE187.out) | exact HB.out))⟩)
      ·
       skip
       refine box_step ?hg (N := 8) ?hd (cs := #[.int .i64 0, .int .i64 0, .int .i64 0]) (t := 56) ?hr ?_; (case hd => rfl); (case hg => rfl); (case hr => first | (go_simp; done) | (go_simp; rfl))
       intro gb187 hg w15 hbox hb
       have n0_ := Aside0.mk (below_step (by repeat (first | (with_reducible first | exact HB.out | apply bA_ | apply bN_ | apply bW_) | exact HB.out)) hb)
       have n1_ := Aside0.mk (hbox)
       have n2_ := Aside0.mk ((by rw [hg]; exact (below_size (by repeat (first | (with_reducible first | exact HB.out | apply bA_ | apply bN_ | apply bW_) | exact HB.out))) : w.heap.size ≤ gb187))
       have n3_ := Aside0.mk ((by rw [hg]; exact (below_size (by repeat (first | (with_reducible first | exact HB.out | apply bA_ | apply bN_ | apply bW_) | exact HB.out))) : w.heap.size ≤ gb187))
       clear HB
       have HB := n0_
       have BK187 := n1_
       have GW187 := n2_
       have GE187 := n3_
       clear n0_ n1_ n2_ n3_
       clear hb hbox hg
       refine hK.out _ _ ⟨((HB.out.cell (World.block_lt_of_cell? _ _ hw184_0)).trans hw184_0), ((HB.out.cell (World.block_lt_of_cell? _ _ hw184_1)).trans hw184_1), ((HB.out.cell (World.block_lt_of_cell? _ _ hw184_2)).trans hw184_2), ((HB.out.cell (World.block_lt_of_cell? _ _ hw185_0)).trans hw185_0), ((HB.out.cell (World.block_lt_of_cell? _ _ hw185_1)).trans hw185_1), ((HB.out.cell (World.block_lt_of_cell? _ _ hw185_2)).trans hw185_2), ((HB.out.cell (World.block_lt_of_cell? _ _ HCP2.out)).trans HCP2.out)⟩ (fun hHeld => ?_)
       clear hK K
       refine norm_ (a' := ?_) ?_ ?_
       rotate_left
       ·
        show Act.put _ (some 8) _ = _
        simp only [Act.put, lS_, lZ_, lC_, i64_w, i32_w]
        rfl
       refine one_ (i := 8) (N := some 7) #[true, true, true, true, true, true, true, true, true, true, false, false] rfl rfl (one_of HT_.out (by kernel_rfl)) (by decide) (fun K hK => ?_)
       refine box_step ?hg (N := 7) ?hd (cs := #[.int .i64 0, .int .i64 0, .int .i64 0]) (t := 56) ?hr ?_; (case hd => rfl); (case hg => rfl); (case hr => first | (go_simp; done) | (go_simp; rfl))
       intro gb186 hg w16 hbox hb
       have n0_ := Aside0.mk (blk_below (g := gb187) (o := .cells #[.int .i64 0, .int .i64 0, .int .i64 0] 56 (0, 0)) (by (with_reducible repeat (first | refine blk_drewN ?_ _ | refine blk_drew ?_ | refine blk_alloc ?_ _)); exact BK187.out) hb)
       have n1_ := Aside0.mk (below_step (by repeat (first | (with_reducible first | exact HB.out | apply bA_ | apply bN_ | apply bW_ | refine below_set ?_ GE187.out) | exact HB.out)) hb)
       have n2_ := Aside0.mk (hbox)
       have n3_ := Aside0.mk ((by rw [hg]; exact (below_size (by repeat (first | (with_reducible first | exact HB.out | apply bA_ | apply bN_ | apply bW_ | refine below_set ?_ GE187.out) | exact HB.out))) : w.heap.size ≤ gb186))
       have n4_ := Aside0.mk ((by rw [hg]; exact (below_size (by repeat (first | (with_reducible first | exact HB.out | apply bA_ | apply bN_ | apply bW_ | refine below_set ?_ GE187.out) | exact HB.out))) : w.heap.size ≤ gb186))
       have n5_ := Aside0.mk ((by rw [hg]; exact Nat.ne_of_lt (blk_lt (g := gb187) (o := .cells #[.int .i64 0, .int .i64 0, .int .i64 0] 56 (0, 0)) (by (with_reducible repeat (first | refine blk_drewN ?_ _ | refine blk_drew ?_ | refine blk_alloc ?_ _)); exact BK187.out)) : gb187 ≠ gb186))
       have n6_ := Aside0.mk ((by rw [hg]; exact Nat.ne_of_gt (blk_lt (g := gb187) (o := .cells #[.int .i64 0, .int .i64 0, .int .i64 0] 56 (0, 0)) (by (with_reducible repeat (first | refine blk_drewN ?_ _ | refine blk_drew ?_ | refine blk_alloc ?_ _)); exact BK187.out)) : gb186 ≠ gb187))
       clear BK187
       clear HB
       have BK187 := n0_
       have HB := n1_
       have BK186 := n2_
       have GW186 := n3_
       have GE186 := n4_
       have NB187_186 := n5_
       have NB186_187 := n6_
       clear n0_ n1_ n2_ n3_ n4_ n5_ n6_
       clear hb hbox hg
       refine hK.out _ _ ⟨((HB.out.cell (World.block_lt_of_cell? _ _ hw184_0)).trans hw184_0), ((HB.out.cell (World.block_lt_of_cell? _ _ hw184_1)).trans hw184_1), ((HB.out.cell (World.block_lt_of_cell? _ _ hw184_2)).trans hw184_2), ((HB.out.cell (World.block_lt_of_cell? _ _ hw185_0)).trans hw185_0), ((HB.out.cell (World.block_lt_of_cell? _ _ hw185_1)).trans hw185_1), ((HB.out.cell (World.block_lt_of_cell? _ _ hw185_2)).trans hw185_2), ((HB.out.cell (World.block_lt_of_cell? _ _ HCP2.out)).trans HCP2.out)⟩ (fun hHeld => ?_)
       clear hK K
       refine norm_ (a' := ?_) ?_ ?_
       rotate_left
       ·
        show Act.put _ (some 7) _ = _
        simp only [Act.put, lS_, lZ_, lC_, i64_w, i32_w]
        rfl
       exact norm_ (by simp only [putAll, Act.put, lS_, lZ_, lC_]) (hCont (gb186, gb187) _ ⟨hHeld, (by (with_reducible repeat (first | refine blk_drewN ?_ _ | refine blk_drew ?_ | refine blk_alloc ?_ _)); exact BK186.out), (by (with_reducible repeat (first | refine blk_drewN ?_ _ | refine blk_drew ?_ | refine blk_alloc ?_ _)); exact BK187.out), GW186.out, GE186.out, NB187_186.out, NB186_187.out, GW187.out, GE187.out, (by repeat (first | (with_reducible first | exact HB.out | apply bA_ | apply bN_ | apply bW_ | refine below_set ?_ GE187.out | refine below_set ?_ GE186.out) | exact HB.out))⟩)
     rintro ⟨gb186, gb187⟩ w17 ⟨hS_, h0_, h1_, h2_, h3_, h4_, h5_, h6_, h7_, h8_⟩
     have n0_ : Aside0 (w17.heap[gb186]? = some (.cells #[.int .i64 0, .int .i64 0, .int .i64 0] 56 (0, 0))) := ⟨h0_⟩
     have n1_ : Aside0 (w17.heap[gb187]? = some (.cells #[.int .i64 0, .int .i64 0, .int .i64 0] 56 (0, 0))) := ⟨h1_⟩
     have n2_ : Aside0 (w.heap.size ≤ gb186) := ⟨h2_⟩
     have n3_ : Aside0 (w.heap.size ≤ gb186) := ⟨h3_⟩
     have n4_ : Aside0 (gb187 ≠ gb186) := ⟨h4_⟩
     have n5_ : Aside0 (gb186 ≠ gb187) := ⟨h5_⟩
     have n6_ : Aside0 (w.heap.size ≤ gb187) := ⟨h6_⟩
     have n7_ : Aside0 (w.heap.size ≤ gb187) := ⟨h7_⟩
     have n8_ : Aside0 (Below w.heap.size w w17) := ⟨h8_⟩
     clear HB
     clear h0_ h1_ h2_ h3_ h4_ h5_ h6_ h7_ h8_
     have BK186 := n0_
     have BK187 := n1_
     have GW186 := n2_
     have GE186 := n3_
     have NB187_186 := n4_
     have NB186_187 := n5_
     have GW187 := n6_
     have GE187 := n7_
     have HB := n8_
     clear n0_ n1_ n2_ n3_ n4_ n5_ n6_ n7_ n8_
     have hHeld : w17.cell? (ad184.add ((a0).toNat * 3)) = some (.int .i64 ((rd_T56 l2 a0).f0)) ∧ w17.cell? ⟨(ad184.add ((a0).toNat * 3)).block, (ad184.add ((a0).toNat * 3)).off + 1, none⟩ = some (.int .i64 ((rd_T56 l2 a0).f1)) ∧ w17.cell? ⟨(ad184.add ((a0).toNat * 3)).block, (ad184.add ((a0).toNat * 3)).off + 2, none⟩ = some (.int .i64 ((rd_T56 l2 a0).f2)) ∧ w17.cell? (ad184.add ((a1).toNat * 3)) = some (.int .i64 ((rd_T56 l2 a1).f0)) ∧ w17.cell? ⟨(ad184.add ((a1).toNat * 3)).block, (ad184.add ((a1).toNat * 3)).off + 1, none⟩ = some (.int .i64 ((rd_T56 l2 a1).f1)) ∧ w17.cell? ⟨(ad184.add ((a1).toNat * 3)).block, (ad184.add ((a1).toNat * 3)).off + 2, none⟩ = some (.int .i64 ((rd_T56 l2 a1).f2)) ∧ w17.cell? cp2 = some (.slice (some ad184) l2.length c2) := hS_
     refine norm_ (a' := ?_) ?_ ?_
     rotate_left
     ·
      simp only [putAll, Act.put, lS_, lZ_, lC_]
      rfl
     refine one_ (i := 10) (N := none) #[true, true, true, true, true, true, true, true, true, true, true, false] rfl rfl (one_of HT_.out (by kernel_rfl)) (by decide) (fun K hK => ?_)
     have hs18 : w17.cell? ⟨gb186, 0, none⟩ = some (.int .i64 0) := (blk_cell BK186.out 0).trans rfl
     have hfs18 := blk_frozen BK186.out 0
     have hns18_1 := NB187_186.out
     have hms18_1 := NB186_187.out
     have hs19 : w17.cell? ⟨gb186, 1, none⟩ = some (.int .i64 0) := (blk_cell BK186.out 1).trans rfl
     have hfs19 := blk_frozen BK186.out 1
     have hns19_1 := NB187_186.out
     have hms19_1 := NB186_187.out
     have hs20 : w17.cell? ⟨gb186, 2, none⟩ = some (.int .i64 0) := (blk_cell BK186.out 2).trans rfl
     have hfs20 := blk_frozen BK186.out 2
     have hns20_1 := NB187_186.out
     have hms20_1 := NB186_187.out
     refine skip_ (w1 := ?_) (by rfl) rfl ?_ ?_
     rotate_left
     ·
      go_simp
      rfl
     refine hK.out _ _ ⟨((cell_far (p := ⟨gb186, _, none⟩) (by first | exact Nat.ne_of_lt (Nat.lt_of_lt_of_le (by have := World.block_lt_of_cell? _ _ hw184_0; first | rwa [add_block] at this | exact this) GW186.out) | (rw [add_block]; exact Nat.ne_of_lt (Nat.lt_of_lt_of_le (by have := World.block_lt_of_cell? _ _ hw184_0; first | rwa [add_block] at this | exact this) GW186.out)) | (show (Addr.add _ _).block ≠ _; rw [add_block]; exact Nat.ne_of_lt (Nat.lt_of_lt_of_le (by have := World.block_lt_of_cell? _ _ hw184_0; first | rwa [add_block] at this | exact this) GW186.out)) | (dsimp only; exact Nat.ne_of_lt (Nat.lt_of_lt_of_le (by have := World.block_lt_of_cell? _ _ hw184_0; first | rwa [add_block] at this | exact this) GW186.out))) _).trans (((cell_far (p := ⟨gb186, _, none⟩) (by first | exact Nat.ne_of_lt (Nat.lt_of_lt_of_le (by have := World.block_lt_of_cell? _ _ hw184_0; first | rwa [add_block] at this | exact this) GW186.out) | (rw [add_block]; exact Nat.ne_of_lt (Nat.lt_of_lt_of_le (by have := World.block_lt_of_cell? _ _ hw184_0; first | rwa [add_block] at this | exact this) GW186.out)) | (show (Addr.add _ _).block ≠ _; rw [add_block]; exact Nat.ne_of_lt (Nat.lt_of_lt_of_le (by have := World.block_lt_of_cell? _ _ hw184_0; first | rwa [add_block] at this | exact this) GW186.out)) | (dsimp only; exact Nat.ne_of_lt (Nat.lt_of_lt_of_le (by have := World.block_lt_of_cell? _ _ hw184_0; first | rwa [add_block] at this | exact this) GW186.out))) _).trans (((cell_far (p := ⟨gb186, _, none⟩) (by first | exact Nat.ne_of_lt (Nat.lt_of_lt_of_le (by have := World.block_lt_of_cell? _ _ hw184_0; first | rwa [add_block] at this | exact this) GW186.out) | (rw [add_block]; exact Nat.ne_of_lt (Nat.lt_of_lt_of_le (by have := World.block_lt_of_cell? _ _ hw184_0; first | rwa [add_block] at this | exact this) GW186.out)) | (show (Addr.add _ _).block ≠ _; rw [add_block]; exact Nat.ne_of_lt (Nat.lt_of_lt_of_le (by have := World.block_lt_of_cell? _ _ hw184_0; first | rwa [add_block] at this | exact this) GW186.out)) | (dsimp only; exact Nat.ne_of_lt (Nat.lt_of_lt_of_le (by have := World.block_lt_of_cell? _ _ hw184_0; first | rwa [add_block] at this | exact this) GW186.out))) _).trans (hHeld.1)))))), ((cell_far (p := ⟨gb186, _, none⟩) (by first | exact Nat.ne_of_lt (Nat.lt_of_lt_of_le (by have := World.block_lt_of_cell? _ _ hw184_1; first | rwa [add_block] at this | exact this) GW186.out) | (rw [add_block]; exact Nat.ne_of_lt (Nat.lt_of_lt_of_le (by have := World.block_lt_of_cell? _ _ hw184_1; first | rwa [add_block] at this | exact this) GW186.out)) | (show (Addr.add _ _).block ≠ _; rw [add_block]; exact Nat.ne_of_lt (Nat.lt_of_lt_of_le (by have := World.block_lt_of_cell? _ _ hw184_1; first | rwa [add_block] at this | exact this) GW186.out)) | (dsimp only; exact Nat.ne_of_lt (Nat.lt_of_lt_of_le (by have := World.block_lt_of_cell? _ _ hw184_1; first | rwa [add_block] at this | exact this) GW186.out))) _).trans (((cell_far (p := ⟨gb186, _, none⟩) (by first | exact Nat.ne_of_lt (Nat.lt_of_lt_of_le (by have := World.block_lt_of_cell? _ _ hw184_1; first | rwa [add_block] at this | exact this) GW186.out) | (rw [add_block]; exact Nat.ne_of_lt (Nat.lt_of_lt_of_le (by have := World.block_lt_of_cell? _ _ hw184_1; first | rwa [add_block] at this | exact this) GW186.out)) | (show (Addr.add _ _).block ≠ _; rw [add_block]; exact Nat.ne_of_lt (Nat.lt_of_lt_of_le (by have := World.block_lt_of_cell? _ _ hw184_1; first | rwa [add_block] at this | exact this) GW186.out)) | (dsimp only; exact Nat.ne_of_lt (Nat.lt_of_lt_of_le (by have := World.block_lt_of_cell? _ _ hw184_1; first | rwa [add_block] at this | exact this) GW186.out))) _).trans (((cell_far (p := ⟨gb186, _, none⟩) (by first | exact Nat.ne_of_lt (Nat.lt_of_lt_of_le (by have := World.block_lt_of_cell? _ _ hw184_1; first | rwa [add_block] at this | exact this) GW186.out) | (rw [add_block]; exact Nat.ne_of_lt (Nat.lt_of_lt_of_le (by have := World.block_lt_of_cell? _ _ hw184_1; first | rwa [add_block] at this | exact this) GW186.out)) | (show (Addr.add _ _).block ≠ _; rw [add_block]; exact Nat.ne_of_lt (Nat.lt_of_lt_of_le (by have := World.block_lt_of_cell? _ _ hw184_1; first | rwa [add_block] at this | exact this) GW186.out)) | (dsimp only; exact Nat.ne_of_lt (Nat.lt_of_lt_of_le (by have := World.block_lt_of_cell? _ _ hw184_1; first | rwa [add_block] at this | exact this) GW186.out))) _).trans (hHeld.2.1)))))), ((cell_far (p := ⟨gb186, _, none⟩) (by first | exact Nat.ne_of_lt (Nat.lt_of_lt_of_le (by have := World.block_lt_of_cell? _ _ hw184_2; first | rwa [add_block] at this | exact this) GW186.out) | (rw [add_block]; exact Nat.ne_of_lt (Nat.lt_of_lt_of_le (by have := World.block_lt_of_cell? _ _ hw184_2; first | rwa [add_block] at this | exact this) GW186.out)) | (show (Addr.add _ _).block ≠ _; rw [add_block]; exact Nat.ne_of_lt (Nat.lt_of_lt_of_le (by have := World.block_lt_of_cell? _ _ hw184_2; first | rwa [add_block] at this | exact this) GW186.out)) | (dsimp only; exact Nat.ne_of_lt (Nat.lt_of_lt_of_le (by have := World.block_lt_of_cell? _ _ hw184_2; first | rwa [add_block] at this | exact this) GW186.out))) _).trans (((cell_far (p := ⟨gb186, _, none⟩) (by first | exact Nat.ne_of_lt (Nat.lt_of_lt_of_le (by have := World.block_lt_of_cell? _ _ hw184_2; first | rwa [add_block] at this | exact this) GW186.out) | (rw [add_block]; exact Nat.ne_of_lt (Nat.lt_of_lt_of_le (by have := World.block_lt_of_cell? _ _ hw184_2; first | rwa [add_block] at this | exact this) GW186.out)) | (show (Addr.add _ _).block ≠ _; rw [add_block]; exact Nat.ne_of_lt (Nat.lt_of_lt_of_le (by have := World.block_lt_of_cell? _ _ hw184_2; first | rwa [add_block] at this | exact this) GW186.out)) | (dsimp only; exact Nat.ne_of_lt (Nat.lt_of_lt_of_le (by have := World.block_lt_of_cell? _ _ hw184_2; first | rwa [add_block] at this | exact this) GW186.out))) _).trans (((cell_far (p := ⟨gb186, _, none⟩) (by first | exact Nat.ne_of_lt (Nat.lt_of_lt_of_le (by have := World.block_lt_of_cell? _ _ hw184_2; first | rwa [add_block] at this | exact this) GW186.out) | (rw [add_block]; exact Nat.ne_of_lt (Nat.lt_of_lt_of_le (by have := World.block_lt_of_cell? _ _ hw184_2; first | rwa [add_block] at this | exact this) GW186.out)) | (show (Addr.add _ _).block ≠ _; rw [add_block]; exact Nat.ne_of_lt (Nat.lt_of_lt_of_le (by have := World.block_lt_of_cell? _ _ hw184_2; first | rwa [add_block] at this | exact this) GW186.out)) | (dsimp only; exact Nat.ne_of_lt (Nat.lt_of_lt_of_le (by have := World.block_lt_of_cell? _ _ hw184_2; first | rwa [add_block] at this | exact this) GW186.out))) _).trans (hHeld.2.2.1)))))), ((cell_far (p := ⟨gb186, _, none⟩) (by first | exact Nat.ne_of_lt (Nat.lt_of_lt_of_le (by have := World.block_lt_of_cell? _ _ hw185_0; first | rwa [add_block] at this | exact this) GW186.out) | (rw [add_block]; exact Nat.ne_of_lt (Nat.lt_of_lt_of_le (by have := World.block_lt_of_cell? _ _ hw185_0; first | rwa [add_block] at this | exact this) GW186.out)) | (show (Addr.add _ _).block ≠ _; rw [add_block]; exact Nat.ne_of_lt (Nat.lt_of_lt_of_le (by have := World.block_lt_of_cell? _ _ hw185_0; first | rwa [add_block] at this | exact this) GW186.out)) | (dsimp only; exact Nat.ne_of_lt (Nat.lt_of_lt_of_le (by have := World.block_lt_of_cell? _ _ hw185_0; first | rwa [add_block] at this | exact this) GW186.out))) _).trans (((cell_far (p := ⟨gb186, _, none⟩) (by first | exact Nat.ne_of_lt (Nat.lt_of_lt_of_le (by have := World.block_lt_of_cell? _ _ hw185_0; first | rwa [add_block] at this | exact this) GW186.out) | (rw [add_block]; exact Nat.ne_of_lt (Nat.lt_of_lt_of_le (by have := World.block_lt_of_cell? _ _ hw185_0; first | rwa [add_block] at this | exact this) GW186.out)) | (show (Addr.add _ _).block ≠ _; rw [add_block]; exact Nat.ne_of_lt (Nat.lt_of_lt_of_le (by have := World.block_lt_of_cell? _ _ hw185_0; first | rwa [add_block] at this | exact this) GW186.out)) | (dsimp only; exact Nat.ne_of_lt (Nat.lt_of_lt_of_le (by have := World.block_lt_of_cell? _ _ hw185_0; first | rwa [add_block] at this | exact this) GW186.out))) _).trans (((cell_far (p := ⟨gb186, _, none⟩) (by first | exact Nat.ne_of_lt (Nat.lt_of_lt_of_le (by have := World.block_lt_of_cell? _ _ hw185_0; first | rwa [add_block] at this | exact this) GW186.out) | (rw [add_block]; exact Nat.ne_of_lt (Nat.lt_of_lt_of_le (by have := World.block_lt_of_cell? _ _ hw185_0; first | rwa [add_block] at this | exact this) GW186.out)) | (show (Addr.add _ _).block ≠ _; rw [add_block]; exact Nat.ne_of_lt (Nat.lt_of_lt_of_le (by have := World.block_lt_of_cell? _ _ hw185_0; first | rwa [add_block] at this | exact this) GW186.out)) | (dsimp only; exact Nat.ne_of_lt (Nat.lt_of_lt_of_le (by have := World.block_lt_of_cell? _ _ hw185_0; first | rwa [add_block] at this | exact this) GW186.out))) _).trans (hHeld.2.2.2.1)))))), ((cell_far (p := ⟨gb186, _, none⟩) (by first | exact Nat.ne_of_lt (Nat.lt_of_lt_of_le (by have := World.block_lt_of_cell? _ _ hw185_1; first | rwa [add_block] at this | exact this) GW186.out) | (rw [add_block]; exact Nat.ne_of_lt (Nat.lt_of_lt_of_le (by have := World.block_lt_of_cell? _ _ hw185_1; first | rwa [add_block] at this | exact this) GW186.out)) | (show (Addr.add _ _).block ≠ _; rw [add_block]; exact Nat.ne_of_lt (Nat.lt_of_lt_of_le (by have := World.block_lt_of_cell? _ _ hw185_1; first | rwa [add_block] at this | exact this) GW186.out)) | (dsimp only; exact Nat.ne_of_lt (Nat.lt_of_lt_of_le (by have := World.block_lt_of_cell? _ _ hw185_1; first | rwa [add_block] at this | exact this) GW186.out))) _).trans (((cell_far (p := ⟨gb186, _, none⟩) (by first | exact Nat.ne_of_lt (Nat.lt_of_lt_of_le (by have := World.block_lt_of_cell? _ _ hw185_1; first | rwa [add_block] at this | exact this) GW186.out) | (rw [add_block]; exact Nat.ne_of_lt (Nat.lt_of_lt_of_le (by have := World.block_lt_of_cell? _ _ hw185_1; first | rwa [add_block] at this | exact this) GW186.out)) | (show (Addr.add _ _).block ≠ _; rw [add_block]; exact Nat.ne_of_lt (Nat.lt_of_lt_of_le (by have := World.block_lt_of_cell? _ _ hw185_1; first | rwa [add_block] at this | exact this) GW186.out)) | (dsimp only; exact Nat.ne_of_lt (Nat.lt_of_lt_of_le (by have := World.block_lt_of_cell? _ _ hw185_1; first | rwa [add_block] at this | exact this) GW186.out))) _).trans (((cell_far (p := ⟨gb186, _, none⟩) (by first | exact Nat.ne_of_lt (Nat.lt_of_lt_of_le (by have := World.block_lt_of_cell? _ _ hw185_1; first | rwa [add_block] at this | exact this) GW186.out) | (rw [add_block]; exact Nat.ne_of_lt (Nat.lt_of_lt_of_le (by have := World.block_lt_of_cell? _ _ hw185_1; first | rwa [add_block] at this | exact this) GW186.out)) | (show (Addr.add _ _).block ≠ _; rw [add_block]; exact Nat.ne_of_lt (Nat.lt_of_lt_of_le (by have := World.block_lt_of_cell? _ _ hw185_1; first | rwa [add_block] at this | exact this) GW186.out)) | (dsimp only; exact Nat.ne_of_lt (Nat.lt_of_lt_of_le (by have := World.block_lt_of_cell? _ _ hw185_1; first | rwa [add_block] at this | exact this) GW186.out))) _).trans (hHeld.2.2.2.2.1)))))), ((cell_far (p := ⟨gb186, _, none⟩) (by first | exact Nat.ne_of_lt (Nat.lt_of_lt_of_le (by have := World.block_lt_of_cell? _ _ hw185_2; first | rwa [add_block] at this | exact this) GW186.out) | (rw [add_block]; exact Nat.ne_of_lt (Nat.lt_of_lt_of_le (by have := World.block_lt_of_cell? _ _ hw185_2; first | rwa [add_block] at this | exact this) GW186.out)) | (show (Addr.add _ _).block ≠ _; rw [add_block]; exact Nat.ne_of_lt (Nat.lt_of_lt_of_le (by have := World.block_lt_of_cell? _ _ hw185_2; first | rwa [add_block] at this | exact this) GW186.out)) | (dsimp only; exact Nat.ne_of_lt (Nat.lt_of_lt_of_le (by have := World.block_lt_of_cell? _ _ hw185_2; first | rwa [add_block] at this | exact this) GW186.out))) _).trans (((cell_far (p := ⟨gb186, _, none⟩) (by first | exact Nat.ne_of_lt (Nat.lt_of_lt_of_le (by have := World.block_lt_of_cell? _ _ hw185_2; first | rwa [add_block] at this | exact this) GW186.out) | (rw [add_block]; exact Nat.ne_of_lt (Nat.lt_of_lt_of_le (by have := World.block_lt_of_cell? _ _ hw185_2; first | rwa [add_block] at this | exact this) GW186.out)) | (show (Addr.add _ _).block ≠ _; rw [add_block]; exact Nat.ne_of_lt (Nat.lt_of_lt_of_le (by have := World.block_lt_of_cell? _ _ hw185_2; first | rwa [add_block] at this | exact this) GW186.out)) | (dsimp only; exact Nat.ne_of_lt (Nat.lt_of_lt_of_le (by have := World.block_lt_of_cell? _ _ hw185_2; first | rwa [add_block] at this | exact this) GW186.out))) _).trans (((cell_far (p := ⟨gb186, _, none⟩) (by first | exact Nat.ne_of_lt (Nat.lt_of_lt_of_le (by have := World.block_lt_of_cell? _ _ hw185_2; first | rwa [add_block] at this | exact this) GW186.out) | (rw [add_block]; exact Nat.ne_of_lt (Nat.lt_of_lt_of_le (by have := World.block_lt_of_cell? _ _ hw185_2; first | rwa [add_block] at this | exact this) GW186.out)) | (show (Addr.add _ _).block ≠ _; rw [add_block]; exact Nat.ne_of_lt (Nat.lt_of_lt_of_le (by have := World.block_lt_of_cell? _ _ hw185_2; first | rwa [add_block] at this | exact this) GW186.out)) | (dsimp only; exact Nat.ne_of_lt (Nat.lt_of_lt_of_le (by have := World.block_lt_of_cell? _ _ hw185_2; first | rwa [add_block] at this | exact this) GW186.out))) _).trans (hHeld.2.2.2.2.2.1)))))), ((cell_far (p := ⟨gb186, _, none⟩) (by first | exact Nat.ne_of_lt (Nat.lt_of_lt_of_le (by have := World.block_lt_of_cell? _ _ HCP2.out; first | rwa [add_block] at this | exact this) GW186.out) | (rw [add_block]; exact Nat.ne_of_lt (Nat.lt_of_lt_of_le (by have := World.block_lt_of_cell? _ _ HCP2.out; first | rwa [add_block] at this | exact this) GW186.out)) | (show (Addr.add _ _).block ≠ _; rw [add_block]; exact Nat.ne_of_lt (Nat.lt_of_lt_of_le (by have := World.block_lt_of_cell? _ _ HCP2.out; first | rwa [add_block] at this | exact this) GW186.out)) | (dsimp only; exact Nat.ne_of_lt (Nat.lt_of_lt_of_le (by have := World.block_lt_of_cell? _ _ HCP2.out; first | rwa [add_block] at this | exact this) GW186.out))) _).trans (((cell_far (p := ⟨gb186, _, none⟩) (by first | exact Nat.ne_of_lt (Nat.lt_of_lt_of_le (by have := World.block_lt_of_cell? _ _ HCP2.out; first | rwa [add_block] at this | exact this) GW186.out) | (rw [add_block]; exact Nat.ne_of_lt (Nat.lt_of_lt_of_le (by have := World.block_lt_of_cell? _ _ HCP2.out; first | rwa [add_block] at this | exact this) GW186.out)) | (show (Addr.add _ _).block ≠ _; rw [add_block]; exact Nat.ne_of_lt (Nat.lt_of_lt_of_le (by have := World.block_lt_of_cell? _ _ HCP2.out; first | rwa [add_block] at this | exact this) GW186.out)) | (dsimp only; exact Nat.ne_of_lt (Nat.lt_of_lt_of_le (by have := World.block_lt_of_cell? _ _ HCP2.out; first | rwa [add_block] at this | exact this) GW186.out))) _).trans (((cell_far (p := ⟨gb186, _, none⟩) (by first | exact Nat.ne_of_lt (Nat.lt_of_lt_of_le (by have := World.block_lt_of_cell? _ _ HCP2.out; first | rwa [add_block] at this | exact this) GW186.out) | (rw [add_block]; exact Nat.ne_of_lt (Nat.lt_of_lt_of_le (by have := World.block_lt_of_cell? _ _ HCP2.out; first | rwa [add_block] at this | exact this) GW186.out)) | (show (Addr.add _ _).block ≠ _; rw [add_block]; exact Nat.ne_of_lt (Nat.lt_of_lt_of_le (by have := World.block_lt_of_cell? _ _ HCP2.out; first | rwa [add_block] at this | exact this) GW186.out)) | (dsimp only; exact Nat.ne_of_lt (Nat.lt_of_lt_of_le (by have := World.block_lt_of_cell? _ _ HCP2.out; first | rwa [add_block] at this | exact this) GW186.out))) _).trans (hHeld.2.2.2.2.2.2))))))⟩ (fun hHeld => ?_)
     clear hK K
     refine one_ (i := 11) (N := none) #[true, true, true, true, true, true, true, true, true, true, true, true] rfl rfl (one_of HT_.out (by kernel_rfl)) (by decide) (fun K hK => ?_)
     have hs21 : w17.cell? ⟨gb187, 0, none⟩ = some (.int .i64 0) := (blk_cell BK187.out 0).trans rfl
     have hfs21 := blk_frozen BK187.out 0
     have hns21_0 := NB186_187.out
     have hms21_0 := NB187_186.out
     have hs22 : w17.cell? ⟨gb187, 1, none⟩ = some (.int .i64 0) := (blk_cell BK187.out 1).trans rfl
     have hfs22 := blk_frozen BK187.out 1
     have hns22_0 := NB186_187.out
     have hms22_0 := NB187_186.out
     have hs23 : w17.cell? ⟨gb187, 2, none⟩ = some (.int .i64 0) := (blk_cell BK187.out 2).trans rfl
     have hfs23 := blk_frozen BK187.out 2
     have hns23_0 := NB186_187.out
     have hms23_0 := NB187_186.out
     refine skip_ (w1 := ?_) (by rfl) rfl ?_ ?_
     rotate_left
     ·
      go_simp
      rfl
     refine hK.out _ _ ⟨((cell_far (p := ⟨gb187, _, none⟩) (by first | exact Nat.ne_of_lt (Nat.lt_of_lt_of_le (by have := World.block_lt_of_cell? _ _ hw184_0; first | rwa [add_block] at this | exact this) GW187.out) | (rw [add_block]; exact Nat.ne_of_lt (Nat.lt_of_lt_of_le (by have := World.block_lt_of_cell? _ _ hw184_0; first | rwa [add_block] at this | exact this) GW187.out)) | (show (Addr.add _ _).block ≠ _; rw [add_block]; exact Nat.ne_of_lt (Nat.lt_of_lt_of_le (by have := World.block_lt_of_cell? _ _ hw184_0; first | rwa [add_block] at this | exact this) GW187.out)) | (dsimp only; exact Nat.ne_of_lt (Nat.lt_of_lt_of_le (by have := World.block_lt_of_cell? _ _ hw184_0; first | rwa [add_block] at this | exact this) GW187.out))) _).trans (((cell_far (p := ⟨gb187, _, none⟩) (by first | exact Nat.ne_of_lt (Nat.lt_of_lt_of_le (by have := World.block_lt_of_cell? _ _ hw184_0; first | rwa [add_block] at this | exact this) GW187.out) | (rw [add_block]; exact Nat.ne_of_lt (Nat.lt_of_lt_of_le (by have := World.block_lt_of_cell? _ _ hw184_0; first | rwa [add_block] at this | exact this) GW187.out)) | (show (Addr.add _ _).block ≠ _; rw [add_block]; exact Nat.ne_of_lt (Nat.lt_of_lt_of_le (by have := World.block_lt_of_cell? _ _ hw184_0; first | rwa [add_block] at this | exact this) GW187.out)) | (dsimp only; exact Nat.ne_of_lt (Nat.lt_of_lt_of_le (by have := World.block_lt_of_cell? _ _ hw184_0; first | rwa [add_block] at this | exact this) GW187.out))) _).trans (((cell_far (p := ⟨gb187, _, none⟩) (by first | exact Nat.ne_of_lt (Nat.lt_of_lt_of_le (by have := World.block_lt_of_cell? _ _ hw184_0; first | rwa [add_block] at this | exact this) GW187.out) | (rw [add_block]; exact Nat.ne_of_lt (Nat.lt_of_lt_of_le (by have := World.block_lt_of_cell? _ _ hw184_0; first | rwa [add_block] at this | exact this) GW187.out)) | (show (Addr.add _ _).block ≠ _; rw [add_block]; exact Nat.ne_of_lt (Nat.lt_of_lt_of_le (by have := World.block_lt_of_cell? _ _ hw184_0; first | rwa [add_block] at this | exact this) GW187.out)) | (dsimp only; exact Nat.ne_of_lt (Nat.lt_of_lt_of_le (by have := World.block_lt_of_cell? _ _ hw184_0; first | rwa [add_block] at this | exact this) GW187.out))) _).trans (hHeld.1)))))), ((cell_far (p := ⟨gb187, _, none⟩) (by first | exact Nat.ne_of_lt (Nat.lt_of_lt_of_le (by have := World.block_lt_of_cell? _ _ hw184_1; first | rwa [add_block] at this | exact this) GW187.out) | (rw [add_block]; exact Nat.ne_of_lt (Nat.lt_of_lt_of_le (by have := World.block_lt_of_cell? _ _ hw184_1; first | rwa [add_block] at this | exact this) GW187.out)) | (show (Addr.add _ _).block ≠ _; rw [add_block]; exact Nat.ne_of_lt (Nat.lt_of_lt_of_le (by have := World.block_lt_of_cell? _ _ hw184_1; first | rwa [add_block] at this | exact this) GW187.out)) | (dsimp only; exact Nat.ne_of_lt (Nat.lt_of_lt_of_le (by have := World.block_lt_of_cell? _ _ hw184_1; first | rwa [add_block] at this | exact this) GW187.out))) _).trans (((cell_far (p := ⟨gb187, _, none⟩) (by first | exact Nat.ne_of_lt (Nat.lt_of_lt_of_le (by have := World.block_lt_of_cell? _ _ hw184_1; first | rwa [add_block] at this | exact this) GW187.out) | (rw [add_block]; exact Nat.ne_of_lt (Nat.lt_of_lt_of_le (by have := World.block_lt_of_cell? _ _ hw184_1; first | rwa [add_block] at this | exact this) GW187.out)) | (show (Addr.add _ _).block ≠ _; rw [add_block]; exact Nat.ne_of_lt (Nat.lt_of_lt_of_le (by have := World.block_lt_of_cell? _ _ hw184_1; first | rwa [add_block] at this | exact this) GW187.out)) | (dsimp only; exact Nat.ne_of_lt (Nat.lt_of_lt_of_le (by have := World.block_lt_of_cell? _ _ hw184_1; first | rwa [add_block] at this | exact this) GW187.out))) _).trans (((cell_far (p := ⟨gb187, _, none⟩) (by first | exact Nat.ne_of_lt (Nat.lt_of_lt_of_le (by have := World.block_lt_of_cell? _ _ hw184_1; first | rwa [add_block] at this | exact this) GW187.out) | (rw [add_block]; exact Nat.ne_of_lt (Nat.lt_of_lt_of_le (by have := World.block_lt_of_cell? _ _ hw184_1; first | rwa [add_block] at this | exact this) GW187.out)) | (show (Addr.add _ _).block ≠ _; rw [add_block]; exact Nat.ne_of_lt (Nat.lt_of_lt_of_le (by have := World.block_lt_of_cell? _ _ hw184_1; first | rwa [add_block] at this | exact this) GW187.out)) | (dsimp only; exact Nat.ne_of_lt (Nat.lt_of_lt_of_le (by have := World.block_lt_of_cell? _ _ hw184_1; first | rwa [add_block] at this | exact this) GW187.out))) _).trans (hHeld.2.1)))))), ((cell_far (p := ⟨gb187, _, none⟩) (by first | exact Nat.ne_of_lt (Nat.lt_of_lt_of_le (by have := World.block_lt_of_cell? _ _ hw184_2; first | rwa [add_block] at this | exact this) GW187.out) | (rw [add_block]; exact Nat.ne_of_lt (Nat.lt_of_lt_of_le (by have := World.block_lt_of_cell? _ _ hw184_2; first | rwa [add_block] at this | exact this) GW187.out)) | (show (Addr.add _ _).block ≠ _; rw [add_block]; exact Nat.ne_of_lt (Nat.lt_of_lt_of_le (by have := World.block_lt_of_cell? _ _ hw184_2; first | rwa [add_block] at this | exact this) GW187.out)) | (dsimp only; exact Nat.ne_of_lt (Nat.lt_of_lt_of_le (by have := World.block_lt_of_cell? _ _ hw184_2; first | rwa [add_block] at this | exact this) GW187.out))) _).trans (((cell_far (p := ⟨gb187, _, none⟩) (by first | exact Nat.ne_of_lt (Nat.lt_of_lt_of_le (by have := World.block_lt_of_cell? _ _ hw184_2; first | rwa [add_block] at this | exact this) GW187.out) | (rw [add_block]; exact Nat.ne_of_lt (Nat.lt_of_lt_of_le (by have := World.block_lt_of_cell? _ _ hw184_2; first | rwa [add_block] at this | exact this) GW187.out)) | (show (Addr.add _ _).block ≠ _; rw [add_block]; exact Nat.ne_of_lt (Nat.lt_of_lt_of_le (by have := World.block_lt_of_cell? _ _ hw184_2; first | rwa [add_block] at this | exact this) GW187.out)) | (dsimp only; exact Nat.ne_of_lt (Nat.lt_of_lt_of_le (by have := World.block_lt_of_cell? _ _ hw184_2; first | rwa [add_block] at this | exact this) GW187.out))) _).trans (((cell_far (p := ⟨gb187, _, none⟩) (by first | exact Nat.ne_of_lt (Nat.lt_of_lt_of_le (by have := World.block_lt_of_cell? _ _ hw184_2; first | rwa [add_block] at this | exact this) GW187.out) | (rw [add_block]; exact Nat.ne_of_lt (Nat.lt_of_lt_of_le (by have := World.block_lt_of_cell? _ _ hw184_2; first | rwa [add_block] at this | exact this) GW187.out)) | (show (Addr.add _ _).block ≠ _; rw [add_block]; exact Nat.ne_of_lt (Nat.lt_of_lt_of_le (by have := World.block_lt_of_cell? _ _ hw184_2; first | rwa [add_block] at this | exact this) GW187.out)) | (dsimp only; exact Nat.ne_of_lt (Nat.lt_of_lt_of_le (by have := World.block_lt_of_cell? _ _ hw184_2; first | rwa [add_block] at this | exact this) GW187.out))) _).trans (hHeld.2.2.1)))))), ((cell_far (p := ⟨gb187, _, none⟩) (by first | exact Nat.ne_of_lt (Nat.lt_of_lt_of_le (by have := World.block_lt_of_cell? _ _ hw185_0; first | rwa [add_block] at this | exact this) GW187.out) | (rw [add_block]; exact Nat.ne_of_lt (Nat.lt_of_lt_of_le (by have := World.block_lt_of_cell? _ _ hw185_0; first | rwa [add_block] at this | exact this) GW187.out)) | (show (Addr.add _ _).block ≠ _; rw [add_block]; exact Nat.ne_of_lt (Nat.lt_of_lt_of_le (by have := World.block_lt_of_cell? _ _ hw185_0; first | rwa [add_block] at this | exact this) GW187.out)) | (dsimp only; exact Nat.ne_of_lt (Nat.lt_of_lt_of_le (by have := World.block_lt_of_cell? _ _ hw185_0; first | rwa [add_block] at this | exact this) GW187.out))) _).trans (((cell_far (p := ⟨gb187, _, none⟩) (by first | exact Nat.ne_of_lt (Nat.lt_of_lt_of_le (by have := World.block_lt_of_cell? _ _ hw185_0; first | rwa [add_block] at this | exact this) GW187.out) | (rw [add_block]; exact Nat.ne_of_lt (Nat.lt_of_lt_of_le (by have := World.block_lt_of_cell? _ _ hw185_0; first | rwa [add_block] at this | exact this) GW187.out)) | (show (Addr.add _ _).block ≠ _; rw [add_block]; exact Nat.ne_of_lt (Nat.lt_of_lt_of_le (by have := World.block_lt_of_cell? _ _ hw185_0; first | rwa [add_block] at this | exact this) GW187.out)) | (dsimp only; exact Nat.ne_of_lt (Nat.lt_of_lt_of_le (by have := World.block_lt_of_cell? _ _ hw185_0; first | rwa [add_block] at this | exact this) GW187.out))) _).trans (((cell_far (p := ⟨gb187, _, none⟩) (by first | exact Nat.ne_of_lt (Nat.lt_of_lt_of_le (by have := World.block_lt_of_cell? _ _ hw185_0; first | rwa [add_block] at this | exact this) GW187.out) | (rw [add_block]; exact Nat.ne_of_lt (Nat.lt_of_lt_of_le (by have := World.block_lt_of_cell? _ _ hw185_0; first | rwa [add_block] at this | exact this) GW187.out)) | (show (Addr.add _ _).block ≠ _; rw [add_block]; exact Nat.ne_of_lt (Nat.lt_of_lt_of_le (by have := World.block_lt_of_cell? _ _ hw185_0; first | rwa [add_block] at this | exact this) GW187.out)) | (dsimp only; exact Nat.ne_of_lt (Nat.lt_of_lt_of_le (by have := World.block_lt_of_cell? _ _ hw185_0; first | rwa [add_block] at this | exact this) GW187.out))) _).trans (hHeld.2.2.2.1)))))), ((cell_far (p := ⟨gb187, _, none⟩) (by first | exact Nat.ne_of_lt (Nat.lt_of_lt_of_le (by have := World.block_lt_of_cell? _ _ hw185_1; first | rwa [add_block] at this | exact this) GW187.out) | (rw [add_block]; exact Nat.ne_of_lt (Nat.lt_of_lt_of_le (by have := World.block_lt_of_cell? _ _ hw185_1; first | rwa [add_block] at this | exact this) GW187.out)) | (show (Addr.add _ _).block ≠ _; rw [add_block]; exact Nat.ne_of_lt (Nat.lt_of_lt_of_le (by have := World.block_lt_of_cell? _ _ hw185_1; first | rwa [add_block] at this | exact this) GW187.out)) | (dsimp only; exact Nat.ne_of_lt (Nat.lt_of_lt_of_le (by have := World.block_lt_of_cell? _ _ hw185_1; first | rwa [add_block] at this | exact this) GW187.out))) _).trans (((cell_far (p := ⟨gb187, _, none⟩) (by first | exact Nat.ne_of_lt (Nat.lt_of_lt_of_le (by have := World.block_lt_of_cell? _ _ hw185_1; first | rwa [add_block] at this | exact this) GW187.out) | (rw [add_block]; exact Nat.ne_of_lt (Nat.lt_of_lt_of_le (by have := World.block_lt_of_cell? _ _ hw185_1; first | rwa [add_block] at this | exact this) GW187.out)) | (show (Addr.add _ _).block ≠ _; rw [add_block]; exact Nat.ne_of_lt (Nat.lt_of_lt_of_le (by have := World.block_lt_of_cell? _ _ hw185_1; first | rwa [add_block] at this | exact this) GW187.out)) | (dsimp only; exact Nat.ne_of_lt (Nat.lt_of_lt_of_le (by have := World.block_lt_of_cell? _ _ hw185_1; first | rwa [add_block] at this | exact this) GW187.out))) _).trans (((cell_far (p := ⟨gb187, _, none⟩) (by first | exact Nat.ne_of_lt (Nat.lt_of_lt_of_le (by have := World.block_lt_of_cell? _ _ hw185_1; first | rwa [add_block] at this | exact this) GW187.out) | (rw [add_block]; exact Nat.ne_of_lt (Nat.lt_of_lt_of_le (by have := World.block_lt_of_cell? _ _ hw185_1; first | rwa [add_block] at this | exact this) GW187.out)) | (show (Addr.add _ _).block ≠ _; rw [add_block]; exact Nat.ne_of_lt (Nat.lt_of_lt_of_le (by have := World.block_lt_of_cell? _ _ hw185_1; first | rwa [add_block] at this | exact this) GW187.out)) | (dsimp only; exact Nat.ne_of_lt (Nat.lt_of_lt_of_le (by have := World.block_lt_of_cell? _ _ hw185_1; first | rwa [add_block] at this | exact this) GW187.out))) _).trans (hHeld.2.2.2.2.1)))))), ((cell_far (p := ⟨gb187, _, none⟩) (by first | exact Nat.ne_of_lt (Nat.lt_of_lt_of_le (by have := World.block_lt_of_cell? _ _ hw185_2; first | rwa [add_block] at this | exact this) GW187.out) | (rw [add_block]; exact Nat.ne_of_lt (Nat.lt_of_lt_of_le (by have := World.block_lt_of_cell? _ _ hw185_2; first | rwa [add_block] at this | exact this) GW187.out)) | (show (Addr.add _ _).block ≠ _; rw [add_block]; exact Nat.ne_of_lt (Nat.lt_of_lt_of_le (by have := World.block_lt_of_cell? _ _ hw185_2; first | rwa [add_block] at this | exact this) GW187.out)) | (dsimp only; exact Nat.ne_of_lt (Nat.lt_of_lt_of_le (by have := World.block_lt_of_cell? _ _ hw185_2; first | rwa [add_block] at this | exact this) GW187.out))) _).trans (((cell_far (p := ⟨gb187, _, none⟩) (by first | exact Nat.ne_of_lt (Nat.lt_of_lt_of_le (by have := World.block_lt_of_cell? _ _ hw185_2; first | rwa [add_block] at this | exact this) GW187.out) | (rw [add_block]; exact Nat.ne_of_lt (Nat.lt_of_lt_of_le (by have := World.block_lt_of_cell? _ _ hw185_2; first | rwa [add_block] at this | exact this) GW187.out)) | (show (Addr.add _ _).block ≠ _; rw [add_block]; exact Nat.ne_of_lt (Nat.lt_of_lt_of_le (by have := World.block_lt_of_cell? _ _ hw185_2; first | rwa [add_block] at this | exact this) GW187.out)) | (dsimp only; exact Nat.ne_of_lt (Nat.lt_of_lt_of_le (by have := World.block_lt_of_cell? _ _ hw185_2; first | rwa [add_block] at this | exact this) GW187.out))) _).trans (((cell_far (p := ⟨gb187, _, none⟩) (by first | exact Nat.ne_of_lt (Nat.lt_of_lt_of_le (by have := World.block_lt_of_cell? _ _ hw185_2; first | rwa [add_block] at this | exact this) GW187.out) | (rw [add_block]; exact Nat.ne_of_lt (Nat.lt_of_lt_of_le (by have := World.block_lt_of_cell? _ _ hw185_2; first | rwa [add_block] at this | exact this) GW187.out)) | (show (Addr.add _ _).block ≠ _; rw [add_block]; exact Nat.ne_of_lt (Nat.lt_of_lt_of_le (by have := World.block_lt_of_cell? _ _ hw185_2; first | rwa [add_block] at this | exact this) GW187.out)) | (dsimp only; exact Nat.ne_of_lt (Nat.lt_of_lt_of_le (by have := World.block_lt_of_cell? _ _ hw185_2; first | rwa [add_block] at this | exact this) GW187.out))) _).trans (hHeld.2.2.2.2.2.1)))))), ((cell_far (p := ⟨gb187, _, none⟩) (by first | exact Nat.ne_of_lt (Nat.lt_of_lt_of_le (by have := World.block_lt_of_cell? _ _ HCP2.out; first | rwa [add_block] at this | exact this) GW187.out) | (rw [add_block]; exact Nat.ne_of_lt (Nat.lt_of_lt_of_le (by have := World.block_lt_of_cell? _ _ HCP2.out; first | rwa [add_block] at this | exact this) GW187.out)) | (show (Addr.add _ _).block ≠ _; rw [add_block]; exact Nat.ne_of_lt (Nat.lt_of_lt_of_le (by have := World.block_lt_of_cell? _ _ HCP2.out; first | rwa [add_block] at this | exact this) GW187.out)) | (dsimp only; exact Nat.ne_of_lt (Nat.lt_of_lt_of_le (by have := World.block_lt_of_cell? _ _ HCP2.out; first | rwa [add_block] at this | exact this) GW187.out))) _).trans (((cell_far (p := ⟨gb187, _, none⟩) (by first | exact Nat.ne_of_lt (Nat.lt_of_lt_of_le (by have := World.block_lt_of_cell? _ _ HCP2.out; first | rwa [add_block] at this | exact this) GW187.out) | (rw [add_block]; exact Nat.ne_of_lt (Nat.lt_of_lt_of_le (by have := World.block_lt_of_cell? _ _ HCP2.out; first | rwa [add_block] at this | exact this) GW187.out)) | (show (Addr.add _ _).block ≠ _; rw [add_block]; exact Nat.ne_of_lt (Nat.lt_of_lt_of_le (by have := World.block_lt_of_cell? _ _ HCP2.out; first | rwa [add_block] at this | exact this) GW187.out)) | (dsimp only; exact Nat.ne_of_lt (Nat.lt_of_lt_of_le (by have := World.block_lt_of_cell? _ _ HCP2.out; first | rwa [add_block] at this | exact this) GW187.out))) _).trans (((cell_far (p := ⟨gb187, _, none⟩) (by first | exact Nat.ne_of_lt (Nat.lt_of_lt_of_le (by have := World.block_lt_of_cell? _ _ HCP2.out; first | rwa [add_block] at this | exact this) GW187.out) | (rw [add_block]; exact Nat.ne_of_lt (Nat.lt_of_lt_of_le (by have := World.block_lt_of_cell? _ _ HCP2.out; first | rwa [add_block] at this | exact this) GW187.out)) | (show (Addr.add _ _).block ≠ _; rw [add_block]; exact Nat.ne_of_lt (Nat.lt_of_lt_of_le (by have := World.block_lt_of_cell? _ _ HCP2.out; first | rwa [add_block] at this | exact this) GW187.out)) | (dsimp only; exact Nat.ne_of_lt (Nat.lt_of_lt_of_le (by have := World.block_lt_of_cell? _ _ HCP2.out; first | rwa [add_block] at this | exact this) GW187.out))) _).trans (hHeld.2.2.2.2.2.2))))))⟩ (fun hHeld => ?_)
     clear hK K
     refine done_ (done_of HT_.out (by kernel_rfl)) ?_
     try go_wp2
     have n0_ : Aside0 (((((((w17.setCell ⟨gb186, 0, none⟩ (.int .i64 ((rd_T56 l2 a0).f0))).setCell ⟨gb186, 1, none⟩ (.int .i64 ((rd_T56 l2 a0).f1))).setCell ⟨gb186, 2, none⟩ (.int .i64 ((rd_T56 l2 a0).f2))).setCell ⟨gb187, 0, none⟩ (.int .i64 ((rd_T56 l2 a1).f0))).setCell ⟨gb187, 1, none⟩ (.int .i64 ((rd_T56 l2 a1).f1))).setCell ⟨gb187, 2, none⟩ (.int .i64 ((rd_T56 l2 a1).f2))).heap[gb186]? = some (.cells #[.int .i64 ((rd_T56 l2 a0).f0), .int .i64 ((rd_T56 l2 a0).f1), .int .i64 ((rd_T56 l2 a0).f2)] 56 (0, 0))) := ⟨by (with_reducible repeat (first | refine blk_drewN ?_ _ | refine blk_drew ?_ | refine blk_alloc ?_ _)); refine blk_far ?_ NB186_187.out _; (with_reducible repeat (first | refine blk_drewN ?_ _ | refine blk_drew ?_ | refine blk_alloc ?_ _)); refine blk_far ?_ NB186_187.out _; (with_reducible repeat (first | refine blk_drewN ?_ _ | refine blk_drew ?_ | refine blk_alloc ?_ _)); refine blk_far ?_ NB186_187.out _; (with_reducible repeat (first | refine blk_drewN ?_ _ | refine blk_drew ?_ | refine blk_alloc ?_ _)); refine blk_put (cs := #[.int .i64 ((rd_T56 l2 a0).f0), .int .i64 ((rd_T56 l2 a0).f1), .int .i64 0]) ?_ 2 _ rfl; (with_reducible repeat (first | refine blk_drewN ?_ _ | refine blk_drew ?_ | refine blk_alloc ?_ _)); refine blk_put (cs := #[.int .i64 ((rd_T56 l2 a0).f0), .int .i64 0, .int .i64 0]) ?_ 1 _ rfl; (with_reducible repeat (first | refine blk_drewN ?_ _ | refine blk_drew ?_ | refine blk_alloc ?_ _)); refine blk_put (cs := #[.int .i64 0, .int .i64 0, .int .i64 0]) ?_ 0 _ rfl; (with_reducible repeat (first | refine blk_drewN ?_ _ | refine blk_drew ?_ | refine blk_alloc ?_ _)); exact BK186.out⟩
     have n1_ : Aside0 (((((((w17.setCell ⟨gb186, 0, none⟩ (.int .i64 ((rd_T56 l2 a0).f0))).setCell ⟨gb186, 1, none⟩ (.int .i64 ((rd_T56 l2 a0).f1))).setCell ⟨gb186, 2, none⟩ (.int .i64 ((rd_T56 l2 a0).f2))).setCell ⟨gb187, 0, none⟩ (.int .i64 ((rd_T56 l2 a1).f0))).setCell ⟨gb187, 1, none⟩ (.int .i64 ((rd_T56 l2 a1).f1))).setCell ⟨gb187, 2, none⟩ (.int .i64 ((rd_T56 l2 a1).f2))).heap[gb187]? = some (.cells #[.int .i64 ((rd_T56 l2 a1).f0), .int .i64 ((rd_T56 l2 a1).f1), .int .i64 ((rd_T56 l2 a1).f2)] 56 (0, 0))) := ⟨by (with_reducible repeat (first | refine blk_drewN ?_ _ | refine blk_drew ?_ | refine blk_alloc ?_ _)); refine blk_put (cs := #[.int .i64 ((rd_T56 l2 a1).f0), .int .i64 ((rd_T56 l2 a1).f1), .int .i64 0]) ?_ 2 _ rfl; (with_reducible repeat (first | refine blk_drewN ?_ _ | refine blk_drew ?_ | refine blk_alloc ?_ _)); refine blk_put (cs := #[.int .i64 ((rd_T56 l2 a1).f0), .int .i64 0, .int .i64 0]) ?_ 1 _ rfl; (with_reducible repeat (first | refine blk_drewN ?_ _ | refine blk_drew ?_ | refine blk_alloc ?_ _)); refine blk_put (cs := #[.int .i64 0, .int .i64 0, .int .i64 0]) ?_ 0 _ rfl; (with_reducible repeat (first | refine blk_drewN ?_ _ | refine blk_drew ?_ | refine blk_alloc ?_ _)); refine blk_far ?_ NB187_186.out _; (with_reducible repeat (first | refine blk_drewN ?_ _ | refine blk_drew ?_ | refine blk_alloc ?_ _)); refine blk_far ?_ NB187_186.out _; (with_reducible repeat (first | refine blk_drewN ?_ _ | refine blk_drew ?_ | refine blk_alloc ?_ _)); refine blk_far ?_ NB187_186.out _; (with_reducible repeat (first | refine blk_drewN ?_ _ | refine blk_drew ?_ | refine blk_alloc ?_ _)); exact BK187.out⟩
     have n2_ : Aside0 (Below w.heap.size w ((((((w17.setCell ⟨gb186, 0, none⟩ (.int .i64 ((rd_T56 l2 a0).f0))).setCell ⟨gb186, 1, none⟩ (.int .i64 ((rd_T56 l2 a0).f1))).setCell ⟨gb186, 2, none⟩ (.int .i64 ((rd_T56 l2 a0).f2))).setCell ⟨gb187, 0, none⟩ (.int .i64 ((rd_T56 l2 a1).f0))).setCell ⟨gb187, 1, none⟩ (.int .i64 ((rd_T56 l2 a1).f1))).setCell ⟨gb187, 2, none⟩ (.int .i64 ((rd_T56 l2 a1).f2)))) := ⟨by repeat (first | (with_reducible first | exact HB.out | apply bA_ | apply bN_ | apply bW_ | refine below_set ?_ GE186.out | refine below_set ?_ GE187.out) | exact HB.out)⟩
     (try clear BK186)
     (try clear BK187)
     (try clear HB)
     generalize ((((((w17.setCell ⟨gb186, 0, none⟩ (.int .i64 ((rd_T56 l2 a0).f0))).setCell ⟨gb186, 1, none⟩ (.int .i64 ((rd_T56 l2 a0).f1))).setCell ⟨gb186, 2, none⟩ (.int .i64 ((rd_T56 l2 a0).f2))).setCell ⟨gb187, 0, none⟩ (.int .i64 ((rd_T56 l2 a1).f0))).setCell ⟨gb187, 1, none⟩ (.int .i64 ((rd_T56 l2 a1).f1))).setCell ⟨gb187, 2, none⟩ (.int .i64 ((rd_T56 l2 a1).f2))) = w24 at n0_ n1_ n2_ ⊢
     have BK186 := n0_
     have BK187 := n1_
     have HB := n2_
     clear n0_ n1_ n2_
     have n0_ := Aside0.mk (blk_drew BK186.out)
     have n1_ := Aside0.mk (blk_drew BK187.out)
     have n2_ := Aside0.mk (bW_ HB.out)
     clear BK186
     clear BK187
     clear HB
     have BK186 := n0_
     have BK187 := n1_
     have HB := n2_
     clear n0_ n1_ n2_
     refine start_ (n := 22) (S := fun w' => w'.cell? ⟨gb186, 0, none⟩ = some (.int .i64 ((rd_T56 l2 a0).f0)) ∧ w'.cell? ⟨gb186, 1, none⟩ = some (.int .i64 ((rd_T56 l2 a0).f1)) ∧ w'.cell? ⟨gb186, 2, none⟩ = some (.int .i64 ((rd_T56 l2 a0).f2)) ∧ w'.cell? ⟨gb187, 0, none⟩ = some (.int .i64 ((rd_T56 l2 a1).f0)) ∧ w'.cell? ⟨gb187, 1, none⟩ = some (.int .i64 ((rd_T56 l2 a1).f1)) ∧ w'.cell? ⟨gb187, 2, none⟩ = some (.int .i64 ((rd_T56 l2 a1).f2)) ∧ w'.cell? cq2 = some (.map (some bq2))) (ds := []) #[false, false, false, false, false, false, false, false, false, false, false, false, false, false, false, false, false, false, false, false, false, false] (by kernel_rfl) rfl rfl ⟨(blk_cell BK186.out 0).trans rfl, (blk_cell BK186.out 1).trans rfl, (blk_cell BK186.out 2).trans rfl, (blk_cell BK187.out 0).trans rfl, (blk_cell BK187.out 1).trans rfl, (blk_cell BK187.out 2).trans rfl, ((HB.out.cell (World.block_lt_of_cell? _ _ HCQ2.out)).trans HCQ2.out)⟩ (fun hHeld => ?_); refine with_tabW impl_FamilyOrder_1.tab2 impl_FamilyOrder_1.bits2 (fun HT_ HW_ => ?_)
     generalize w24.drew = w25 at BK186 BK187 HB hHeld ⊢
     refine take_ (i := 0) (N := some 17) (v := ?_) (a' := ?_) #[true, false, false, false, false, false, false, false, false, false, false, false, false, false, false, false, false, false, false, false, false, false] rfl rfl (take_ofW HT_.out HW_.out (by kernel_rfl)) (fun _ _ _ h => h) (Or.inl ⟨by rfl, ?_⟩) hHeld ?_ ?_
     rotate_left
     ·
      rintro w' ⟨s0, s1, s2, s3, s4, s5, sb_⟩
      go_simp
      with_reducible rfl
     rotate_left
     ·
      simp only [Act.put, lS_, lZ_, lC_, i64_w, i32_w]
      rfl
     refine pure_ (i := 1) (N := some 18) (v := ?_) (a' := ?_) #[true, true, false, false, false, false, false, false, false, false, false, false, false, false, false, false, false, false, false, false, false, false] rfl rfl (any_of HT_.out (by kernel_rfl)) (fun _ _ _ h => h) (Or.inl ⟨by rfl, ?_⟩) ?_ ?_
     rotate_left
     ·
      intro w'
      go_simp
      with_reducible rfl
     rotate_left
     ·
      simp only [Act.put, lS_, lZ_, lC_, i64_w, i32_w]
      rfl
     refine take_ (i := 4) (N := some 21) (v := ?_) (a' := ?_) #[true, true, false, false, true, false, false, false, false, false, false, false, false, false, false, false, false, false, false, false, false, false] rfl rfl (take_ofW HT_.out HW_.out (by kernel_rfl)) (fun _ _ _ h => h) (Or.inl ⟨by rfl, ?_⟩) hHeld ?_ ?_
     rotate_left
     ·
      rintro w' ⟨s0, s1, s2, s3, s4, s5, sb_⟩
      go_simp
      with_reducible rfl
     rotate_left
     ·
      simp only [Act.put, lS_, lZ_, lC_, i64_w, i32_w]
      rfl
     refine pure_ (i := 5) (N := some 22) (v := ?_) (a' := ?_) #[true, true, false, false, true, true, false, false, false, false, false, false, false, false, false, false, false, false, false, false, false, false] rfl rfl (any_of HT_.out (by kernel_rfl)) (fun _ _ _ h => h) (Or.inl ⟨by rfl, ?_⟩) ?_ ?_
     rotate_left
     ·
      intro w'
      go_simp
      with_reducible rfl
     rotate_left
     ·
      simp only [Act.put, lS_, lZ_, lC_, i64_w, i32_w]
      rfl
     refine pure_ (i := 9) (N := some 26) (v := ?_) (a' := ?_) #[true, true, false, false, true, true, false, false, false, true, false, false, false, false, false, false, false, false, false, false, false, false] rfl rfl (any_of HT_.out (by kernel_rfl)) (fun _ _ _ h => h) (Or.inl ⟨by rfl, ?_⟩) ?_ ?_
     rotate_left
     ·
      intro w'
      go_simp
      with_reducible rfl
     rotate_left
     ·
      simp only [Act.put, lS_, lZ_, lC_, i64_w, i32_w]
      rfl
     refine pure_ (i := 11) (N := some 28) (v := ?_) (a' := ?_) #[true, true, false, false, true, true, false, false, false, true, false, true, false, false, false, false, false, false, false, false, false, false] rfl rfl (any_of HT_.out (by kernel_rfl)) (fun _ _ _ h => h) (Or.inl ⟨by rfl, ?_⟩) ?_ ?_
     rotate_left
     ·
      intro w'
      go_simp
      with_reducible rfl
     rotate_left
     ·
      simp only [Act.put, lS_, lZ_, lC_, i64_w, i32_w]
      rfl
     refine pure_ (i := 14) (N := some 31) (v := ?_) (a' := ?_) #[true, true, false, false, true, true, false, false, false, true, false, true, false, false, true, false, false, false, false, false, false, false] rfl rfl (any_of HT_.out (by kernel_rfl)) (fun _ _ _ h => h) (Or.inl ⟨by rfl, ?_⟩) ?_ ?_
     rotate_left
     ·
      intro w'
      go_simp
      with_reducible rfl
     rotate_left
     ·
      simp only [Act.put, lS_, lZ_, lC_, i64_w, i32_w]
      rfl
     refine pure_ (i := 16) (N := some 33) (v := ?_) (a' := ?_) #[true, true, false, false, true, true, false, false, false, true, false, true, false, false, true, false, true, false, false, false, false, false] rfl rfl (any_of HT_.out (by kernel_rfl)) (fun _ _ _ h => h) (Or.inl ⟨by rfl, ?_⟩) ?_ ?_
     rotate_left
     ·
      intro w'
      go_simp
      with_reducible rfl
     rotate_left
     ·
      simp only [Act.put, lS_, lZ_, lC_, i64_w, i32_w]
      rfl
     refine take_ (i := 2) (N := some 19) (v := ?_) (a' := ?_) #[true, true, true, false, true, true, false, false, false, true, false, true, false, false, true, false, true, false, false, false, false, false] rfl rfl (take_ofW HT_.out HW_.out (by kernel_rfl)) (fun _ _ _ h => h) (Or.inl ⟨by rfl, ?_⟩) hHeld ?_ ?_
     rotate_left
     ·
      rintro w' ⟨s0, s1, s2, s3, s4, s5, sb_⟩
      go_simp
      with_reducible rfl
     rotate_left
     ·
      simp only [Act.put, lS_, lZ_, lC_, i64_w, i32_w]
      rfl
     refine take_ (i := 6) (N := some 23) (v := ?_) (a' := ?_) #[true, true, true, false, true, true, true, false, false, true, false, true, false, false, true, false, true, false, false, false, false, false] rfl rfl (take_ofW HT_.out HW_.out (by kernel_rfl)) (fun _ _ _ h => h) (Or.inl ⟨by rfl, ?_⟩) hHeld ?_ ?_
     rotate_left
     ·
      rintro w' ⟨s0, s1, s2, s3, s4, s5, sb_⟩
      go_simp
      with_reducible rfl
     rotate_left
     ·
      simp only [Act.put, lS_, lZ_, lC_, i64_w, i32_w]
      rfl
     refine take_ (i := 10) (N := some 27) (v := ?_) (a' := ?_) #[true, true, true, false, true, true, true, false, false, true, true, true, false, false, true, false, true, false, false, false, false, false] rfl rfl (take_ofW HT_.out HW_.out (by kernel_rfl)) (fun _ _ _ h => h) (Or.inl ⟨by rfl, ?_⟩) hHeld ?_ ?_
     rotate_left
     ·
      rintro w' ⟨s0, s1, s2, s3, s4, s5, sb_⟩
      go_simp
      with_reducible rfl
     rotate_left
     ·
      simp only [Act.put, lS_, lZ_, lC_, i64_w, i32_w]
      rfl
     refine take_ (i := 12) (N := some 29) (v := ?_) (a' := ?_) #[true, true, true, false, true, true, true, false, false, true, true, true, true, false, true, false, true, false, false, false, false, false] rfl rfl (take_ofW HT_.out HW_.out (by kernel_rfl)) (fun _ _ _ h => h) (Or.inl ⟨by rfl, ?_⟩) hHeld ?_ ?_
     rotate_left
     ·
      rintro w' ⟨s0, s1, s2, s3, s4, s5, sb_⟩
      go_simp
      with_reducible rfl
     rotate_left
     ·
      simp only [Act.put, lS_, lZ_, lC_, i64_w, i32_w]
      rfl
     refine take_ (i := 15) (N := some 32) (v := ?_) (a' := ?_) #[true, true, true, false, true, true, true, false, false, true, true, true, true, false, true, true, true, false, false, false, false, false] rfl rfl (take_ofW HT_.out HW_.out (by kernel_rfl)) (fun _ _ _ h => h) (Or.inl ⟨by rfl, ?_⟩) hHeld ?_ ?_
     rotate_left
     ·
      rintro w' ⟨s0, s1, s2, s3, s4, s5, sb_⟩
      go_simp
      with_reducible rfl
     rotate_left
     ·
      simp only [Act.put, lS_, lZ_, lC_, i64_w, i32_w]
      rfl
     refine take_ (i := 17) (N := some 34) (v := ?_) (a' := ?_) #[true, true, true, false, true, true, true, false, false, true, true, true, true, false, true, true, true, true, false, false, false, false] rfl rfl (take_ofW HT_.out HW_.out (by kernel_rfl)) (fun _ _ _ h => h) (Or.inl ⟨by rfl, ?_⟩) hHeld ?_ ?_
     rotate_left
     ·
      rintro w' ⟨s0, s1, s2, s3, s4, s5, sb_⟩
      go_simp
      with_reducible rfl
     rotate_left
     ·
      simp only [Act.put, lS_, lZ_, lC_, i64_w, i32_w]
      rfl
     refine join_ (σ := Unit) 6 #[true, true, true, true, true, true, true, true, false, true, true, true, true, false, true, true, true, true, false, false, false, false] (fun s_ => [(20, .int .i64 t188), (24, .int .i64 t189)]) (fun s_ w' => (w'.cell? ⟨gb186, 0, none⟩ = some (.int .i64 ((rd_T56 l2 a0).f0)) ∧ w'.cell? ⟨gb186, 1, none⟩ = some (.int .i64 ((rd_T56 l2 a0).f1)) ∧ w'.cell? ⟨gb186, 2, none⟩ = some (.int .i64 ((rd_T56 l2 a0).f2)) ∧ w'.cell? ⟨gb187, 0, none⟩ = some (.int .i64 ((rd_T56 l2 a1).f0)) ∧ w'.cell? ⟨gb187, 1, none⟩ = some (.int .i64 ((rd_T56 l2 a1).f1)) ∧ w'.cell? ⟨gb187, 2, none⟩ = some (.int .i64 ((rd_T56 l2 a1).f2)) ∧ w'.cell? cq2 = some (.map (some bq2))) ∧ (w'.heap[gb186]? = some (.cells #[.int .i64 ((rd_T56 l2 a0).f0), .int .i64 ((rd_T56 l2 a0).f1), .int .i64 ((rd_T56 l2 a0).f2)] 56 (0, 0))) ∧ (w'.heap[gb187]? = some (.cells #[.int .i64 ((rd_T56 l2 a1).f0), .int .i64 ((rd_T56 l2 a1).f1), .int .i64 ((rd_T56 l2 a1).f2)] 56 (0, 0))) ∧ (Below w.heap.size w w')) ?_ ?_
     rotate_left
     ·
      intro hCont
      refine two_ (i := 3) (j := 7) (Ni := some 20) (Nj := some 24) #[true, true, true, true, true, true, true, false, false, true, true, true, true, false, true, true, true, true, false, false, false, false] #[true, true, true, false, true, true, true, true, false, true, true, true, true, false, true, true, true, true, false, false, false, false] rfl rfl rfl rfl (two_of HT_.out (by kernel_rfl)) (by decide) (by decide) (fun K hK => ?_) (fun K hK => ?_)
      ·
       skip
       refine look_step (by rfl) rfl rfl (.map (some bq2)) (.int .i64 ((rd_T56 l2 a0).f0)) (.int .i64 t188) rfl rfl (map_look (mapOwn_below HMQ2.out (by repeat (first | (with_reducible first | exact HB.out | apply bA_ | apply bN_ | apply bW_ | refine below_set ?_ GE186.out | refine below_set ?_ GE187.out) | exact HB.out))) A8.out) ?_
       refine hK.out _ _ ⟨(blk_cell BK186.out 0).trans rfl, (blk_cell BK186.out 1).trans rfl, (blk_cell BK186.out 2).trans rfl, (blk_cell BK187.out 0).trans rfl, (blk_cell BK187.out 1).trans rfl, (blk_cell BK187.out 2).trans rfl, ((HB.out.cell (World.block_lt_of_cell? _ _ HCQ2.out)).trans HCQ2.out)⟩ (fun hHeld => ?_)
       clear hK K
       refine norm_ (a' := ?_) ?_ ?_
       rotate_left
       ·
        show Act.put _ (some 20) _ = _
        simp only [Act.put, lS_, lZ_, lC_, i64_w, i32_w]
        rfl
       refine one_ (i := 7) (N := some 24) #[true, true, true, true, true, true, true, true, false, true, true, true, true, false, true, true, true, true, false, false, false, false] rfl rfl (one_of HT_.out (by kernel_rfl)) (by decide) (fun K hK => ?_)
       refine look_step (by rfl) rfl rfl (.map (some bq2)) (.int .i64 ((rd_T56 l2 a1).f0)) (.int .i64 t189) rfl rfl (map_look (mapOwn_below HMQ2.out (by repeat (first | (with_reducible first | exact HB.out | apply bA_ | apply bN_ | apply bW_ | refine below_set ?_ GE186.out | refine below_set ?_ GE187.out) | exact HB.out))) A9.out) ?_
       refine hK.out _ _ ⟨(blk_cell BK186.out 0).trans rfl, (blk_cell BK186.out 1).trans rfl, (blk_cell BK186.out 2).trans rfl, (blk_cell BK187.out 0).trans rfl, (blk_cell BK187.out 1).trans rfl, (blk_cell BK187.out 2).trans rfl, ((HB.out.cell (World.block_lt_of_cell? _ _ HCQ2.out)).trans HCQ2.out)⟩ (fun hHeld => ?_)
       clear hK K
       refine norm_ (a' := ?_) ?_ ?_
       rotate_left
       ·
        show Act.put _ (some 24) _ = _
        simp only [Act.put, lS_, lZ_, lC_, i64_w, i32_w]
        rfl
       exact norm_ (by simp only [putAll, Act.put, lS_, lZ_, lC_]) (hCont () _ ⟨hHeld, (by (with_reducible repeat (first | refine blk_drewN ?_ _ | refine blk_drew ?_ | refine blk_alloc ?_ _)); exact BK186.out), (by (with_reducible repeat (first | refine blk_drewN ?_ _ | refine blk_drew ?_ | refine blk_alloc ?_ _)); exact BK187.out), (by repeat (first | (with_reducible first | exact HB.out | apply bA_ | apply bN_ | apply bW_ | refine below_set ?_ GE186.out | refine below_set ?_ GE187.out) | exact HB.out))⟩)
      ·
       skip
       refine look_step (by rfl) rfl rfl (.map (some bq2)) (.int .i64 ((rd_T56 l2 a1).f0)) (.int .i64 t189) rfl rfl (map_look (mapOwn_below HMQ2.out (by repeat (first | (with_reducible first | exact HB.out | apply bA_ | apply bN_ | apply bW_ | refine below_set ?_ GE186.out | refine below_set ?_ GE187.out) | exact HB.out))) A9.out) ?_
       refine hK.out _ _ ⟨(blk_cell BK186.out 0).trans rfl, (blk_cell BK186.out 1).trans rfl, (blk_cell BK186.out 2).trans rfl, (blk_cell BK187.out 0).trans rfl, (blk_cell BK187.out 1).trans rfl, (blk_cell BK187.out 2).trans rfl, ((HB.out.cell (World.block_lt_of_cell? _ _ HCQ2.out)).trans HCQ2.out)⟩ (fun hHeld => ?_)
       clear hK K
       refine norm_ (a' := ?_) ?_ ?_
       rotate_left
       ·
        show Act.put _ (some 24) _ = _
        simp only [Act.put, lS_, lZ_, lC_, i64_w, i32_w]
        rfl
       refine one_ (i := 3) (N := some 20) #[true, true, true, true, true, true, true, true, false, true, true, true, true, false, true, true, true, true, false, false, false, false] rfl rfl (one_of HT_.out (by kernel_rfl)) (by decide) (fun K hK => ?_)
       refine look_step (by rfl) rfl rfl (.map (some bq2)) (.int .i64 ((rd_T56 l2 a0).f0)) (.int .i64 t188) rfl rfl (map_look (mapOwn_below HMQ2.out (by repeat (first | (with_reducible first | exact HB.out | apply bA_ | apply bN_ | apply bW_ | refine below_set ?_ GE186.out | refine below_set ?_ GE187.out) | exact HB.out))) A8.out) ?_
       refine hK.out _ _ ⟨(blk_cell BK186.out 0).trans rfl, (blk_cell BK186.out 1).trans rfl, (blk_cell BK186.out 2).trans rfl, (blk_cell BK187.out 0).trans rfl, (blk_cell BK187.out 1).trans rfl, (blk_cell BK187.out 2).trans rfl, ((HB.out.cell (World.block_lt_of_cell? _ _ HCQ2.out)).trans HCQ2.out)⟩ (fun hHeld => ?_)
       clear hK K
       refine norm_ (a' := ?_) ?_ ?_
       rotate_left
       ·
        show Act.put _ (some 20) _ = _
        simp only [Act.put, lS_, lZ_, lC_, i64_w, i32_w]
        rfl
       exact norm_ (by simp only [putAll, Act.put, lS_, lZ_, lC_]) (hCont () _ ⟨hHeld, (by (with_reducible repeat (first | refine blk_drewN ?_ _ | refine blk_drew ?_ | refine blk_alloc ?_ _)); exact BK186.out), (by (with_reducible repeat (first | refine blk_drewN ?_ _ | refine blk_drew ?_ | refine blk_alloc ?_ _)); exact BK187.out), (by repeat (first | (with_reducible first | exact HB.out | apply bA_ | apply bN_ | apply bW_ | refine below_set ?_ GE186.out | refine below_set ?_ GE187.out) | exact HB.out))⟩)
     rintro _ w26 ⟨hS_, h0_, h1_, h2_⟩
     have n0_ : Aside0 (w26.heap[gb186]? = some (.cells #[.int .i64 ((rd_T56 l2 a0).f0), .int .i64 ((rd_T56 l2 a0).f1), .int .i64 ((rd_T56 l2 a0).f2)] 56 (0, 0))) := ⟨h0_⟩
     have n1_ : Aside0 (w26.heap[gb187]? = some (.cells #[.int .i64 ((rd_T56 l2 a1).f0), .int .i64 ((rd_T56 l2 a1).f1), .int .i64 ((rd_T56 l2 a1).f2)] 56 (0, 0))) := ⟨h1_⟩
     have n2_ : Aside0 (Below w.heap.size w w26) := ⟨h2_⟩
     clear BK186
     clear BK187
     clear HB
     clear h0_ h1_ h2_
     have BK186 := n0_
     have BK187 := n1_
     have HB := n2_
     clear n0_ n1_ n2_
     have hHeld : w26.cell? ⟨gb186, 0, none⟩ = some (.int .i64 ((rd_T56 l2 a0).f0)) ∧ w26.cell? ⟨gb186, 1, none⟩ = some (.int .i64 ((rd_T56 l2 a0).f1)) ∧ w26.cell? ⟨gb186, 2, none⟩ = some (.int .i64 ((rd_T56 l2 a0).f2)) ∧ w26.cell? ⟨gb187, 0, none⟩ = some (.int .i64 ((rd_T56 l2 a1).f0)) ∧ w26.cell? ⟨gb187, 1, none⟩ = some (.int .i64 ((rd_T56 l2 a1).f1)) ∧ w26.cell? ⟨gb187, 2, none⟩ = some (.int .i64 ((rd_T56 l2 a1).f2)) ∧ w26.cell? cq2 = some (.map (some bq2)) := hS_
     refine norm_ (a' := ?_) ?_ ?_
     rotate_left
     ·
      simp only [putAll, Act.put, lS_, lZ_, lC_]
      rfl
     refine one_ (i := 8) (N := some 25) #[true, true, true, true, true, true, true, true, true, true, true, true, true, false, true, true, true, true, false, false, false, false] rfl rfl (one_of HT_.out (by kernel_rfl)) (by decide) (fun K hK => ?_)
     refine goes_ Try.func48 (by kernel_rfl) rfl #[.int .i64 t188, .int .i64 t189] (by rfl) rfl rfl (by (try simp only [List.map_toArray, List.map_cons, List.map_nil]); first | done | rfl | (simp only [List.length_drop, List.length_take]; rfl)) ?_
     with_reducible refine (cmp_Compare_int64.calls t188 t189 t190 _ A10.out).mono ?_
     rintro e w' ⟨rfl, ⟨nd, rfl⟩⟩
     refine ⟨_, rfl, ?_⟩
     refine hK.out _ _ ⟨(blk_cell BK186.out 0).trans rfl, (blk_cell BK186.out 1).trans rfl, (blk_cell BK186.out 2).trans rfl, (blk_cell BK187.out 0).trans rfl, (blk_cell BK187.out 1).trans rfl, (blk_cell BK187.out 2).trans rfl, ((HB.out.cell (World.block_lt_of_cell? _ _ HCQ2.out)).trans HCQ2.out)⟩ (fun hHeld => ?_)
     clear hK K
     refine norm_ (a' := ?_) ?_ ?_
     rotate_left
     ·
      show Act.put _ (some 25) _ = _
      simp only [Act.put, lS_, lZ_, lC_, i64_w, i32_w]
      rfl
     refine one_ (i := 13) (N := some 30) #[true, true, true, true, true, true, true, true, true, true, true, true, true, true, true, true, true, true, false, false, false, false] rfl rfl (one_of HT_.out (by kernel_rfl)) (by decide) (fun K hK => ?_)
     refine goes_ Try.func48 (by kernel_rfl) rfl #[.int .i64 ((rd_T56 l2 a0).f0), .int .i64 ((rd_T56 l2 a1).f0)] (by rfl) rfl rfl (by (try simp only [List.map_toArray, List.map_cons, List.map_nil]); first | done | rfl | (simp only [List.length_drop, List.length_take]; rfl)) ?_
     with_reducible refine (cmp_Compare_int64.calls ((rd_T56 l2 a0).f0) ((rd_T56 l2 a1).f0) t191 _ A11.out).mono ?_
     rintro e w' ⟨rfl, ⟨nd, rfl⟩⟩
     refine ⟨_, rfl, ?_⟩
     refine hK.out _ _ ⟨(blk_cell BK186.out 0).trans rfl, (blk_cell BK186.out 1).trans rfl, (blk_cell BK186.out 2).trans rfl, (blk_cell BK187.out 0).trans rfl, (blk_cell BK187.out 1).trans rfl, (blk_cell BK187.out 2).trans rfl, ((HB.out.cell (World.block_lt_of_cell? _ _ HCQ2.out)).trans HCQ2.out)⟩ (fun hHeld => ?_)
     clear hK K
     refine norm_ (a' := ?_) ?_ ?_
     rotate_left
     ·
      show Act.put _ (some 30) _ = _
      simp only [Act.put, lS_, lZ_, lC_, i64_w, i32_w]
      rfl
     refine one_ (i := 18) (N := some 35) #[true, true, true, true, true, true, true, true, true, true, true, true, true, true, true, true, true, true, true, false, false, false] rfl rfl (one_of HT_.out (by kernel_rfl)) (by decide) (fun K hK => ?_)
     refine goes_ Try.func48 (by kernel_rfl) rfl #[.int .i64 ((rd_T56 l2 a0).f2), .int .i64 ((rd_T56 l2 a1).f2)] (by rfl) rfl rfl (by (try simp only [List.map_toArray, List.map_cons, List.map_nil]); first | done | rfl | (simp only [List.length_drop, List.length_take]; rfl)) ?_
     with_reducible refine (cmp_Compare_int64.calls ((rd_T56 l2 a0).f2) ((rd_T56 l2 a1).f2) t192 _ A12.out).mono ?_
     rintro e w' ⟨rfl, ⟨nd, rfl⟩⟩
     refine ⟨_, rfl, ?_⟩
     refine hK.out _ _ ⟨(blk_cell BK186.out 0).trans rfl, (blk_cell BK186.out 1).trans rfl, (blk_cell BK186.out 2).trans rfl, (blk_cell BK187.out 0).trans rfl, (blk_cell BK187.out 1).trans rfl, (blk_cell BK187.out 2).trans rfl, ((HB.out.cell (World.block_lt_of_cell? _ _ HCQ2.out)).trans HCQ2.out)⟩ (fun hHeld => ?_)
     clear hK K
     refine norm_ (a' := ?_) ?_ ?_
     rotate_left
     ·
      show Act.put _ (some 35) _ = _
      simp only [Act.put, lS_, lZ_, lC_, i64_w, i32_w]
      rfl
     refine one_ (i := 19) (N := some 36) #[true, true, true, true, true, true, true, true, true, true, true, true, true, true, true, true, true, true, true, true, false, false] rfl rfl (one_of HT_.out (by kernel_rfl)) (by decide) (fun K hK => ?_)
     refine Kd.R_lit_step (Kd.int .i64) _ 3 ?hg (N := 36) ?hd (xs := ([t190, t191, t192] : List Int)) (inner := [.int .i64 t190, .int .i64 t191, .int .i64 t192]) (ok := fun _ => True) (okp := fun _ => True) ?hr ?hp (fun _ hk => hk) trivial (Below.refl _ _) (Nat.le_refl _) (by simp) ?_; (case hd => rfl); (case hg => rfl); (case hr => first | (go_simp; done) | (go_simp; rfl)); (case hp => exact (Reps.one (show Kd.M (Kd.int .i64) _ _ _ t190 [.int .i64 t190] from rfl) (Reps.one (show Kd.M (Kd.int .i64) _ _ _ t191 [.int .i64 t191] from rfl) (Reps.one (show Kd.M (Kd.int .i64) _ _ _ t192 [.int .i64 t192] from rfl) (Reps.none _ _)))))
     intro v194 w27 ho28 hb hg_ hnew_
     clear hg_ hnew_
     (first | rw [← Ny193.out] at ho28 | (simp only [Int.reduceToNat] at ho28; rw [← Ny193.out] at ho28))
     have n0_ := Aside0.mk (Kd.R_lower ho28 (below_size (by repeat (first | (with_reducible first | exact HB.out | apply bA_ | apply bN_ | apply bW_ | refine below_set ?_ GE186.out | refine below_set ?_ GE187.out) | exact HB.out))))
     have n1_ := Aside0.mk (blk_below (g := gb186) (o := .cells #[.int .i64 ((rd_T56 l2 a0).f0), .int .i64 ((rd_T56 l2 a0).f1), .int .i64 ((rd_T56 l2 a0).f2)] 56 (0, 0)) (by (with_reducible repeat (first | refine blk_drewN ?_ _ | refine blk_drew ?_ | refine blk_alloc ?_ _)); exact BK186.out) hb)
     have n2_ := Aside0.mk (blk_below (g := gb187) (o := .cells #[.int .i64 ((rd_T56 l2 a1).f0), .int .i64 ((rd_T56 l2 a1).f1), .int .i64 ((rd_T56 l2 a1).f2)] 56 (0, 0)) (by (with_reducible repeat (first | refine blk_drewN ?_ _ | refine blk_drew ?_ | refine blk_alloc ?_ _)); exact BK187.out) hb)
     have n3_ := Aside0.mk (below_step (by repeat (first | (with_reducible first | exact HB.out | apply bA_ | apply bN_ | apply bW_ | refine below_set ?_ GE186.out | refine below_set ?_ GE187.out) | exact HB.out)) hb)
     clear BK186
     clear BK187
     clear HB
     have HO195 := n0_
     have BK186 := n1_
     have BK187 := n2_
     have HB := n3_
     clear n0_ n1_ n2_ n3_
     clear hb ho28
     obtain ⟨Ao29, co29, eo29⟩ := Kd.R_slice HO195.out
     (first | subst eo29 | (injection eo29 with f1_ f2_ f3_; have f4_ := f1_.symm; have f5_ := f3_.symm; clear f1_ f2_ f3_; subst f4_; subst f5_))
     refine hK.out _ _ ⟨(blk_cell BK186.out 0).trans rfl, (blk_cell BK186.out 1).trans rfl, (blk_cell BK186.out 2).trans rfl, (blk_cell BK187.out 0).trans rfl, (blk_cell BK187.out 1).trans rfl, (blk_cell BK187.out 2).trans rfl, ((HB.out.cell (World.block_lt_of_cell? _ _ HCQ2.out)).trans HCQ2.out)⟩ (fun hHeld => ?_)
     clear hK K
     refine norm_ (a' := ?_) ?_ ?_
     rotate_left
     ·
      show Act.put _ (some 36) _ = _
      simp only [Act.put, lS_, lZ_, lC_, i64_w, i32_w]
      rfl
     refine one_ (i := 20) (N := some 37) #[true, true, true, true, true, true, true, true, true, true, true, true, true, true, true, true, true, true, true, true, true, false] rfl rfl (one_of HT_.out (by kernel_rfl)) (by decide) (fun K hK => ?_)
     refine goes_ Try.func47 (by kernel_rfl) rfl #[.slice Ao29 y193.length co29] (by rfl) rfl rfl (by (try simp only [List.map_toArray, List.map_cons, List.map_nil]); first | done | rfl | (simp only [List.length_drop, List.length_take]; rfl)) ?_
     with_reducible refine (cmp_Or_int.calls k _ _ y193 t196 _ ?side1 ?side2 A13.out).mono ?_
     (case side1 => repeat (first | exact (Kd.R_reads' HO195.out).2.2 | (with_reducible refine cA_ ?_ _) | (with_reducible refine cN_ ?_ _) | (with_reducible refine cW_ ?_)))
     (case side2 => exact (Kd.R_reads' HO195.out).2.1)
     rintro e w' ⟨rfl, ⟨nd, rfl⟩⟩
     refine ⟨_, rfl, ?_⟩
     refine hK.out _ _ ⟨(blk_cell BK186.out 0).trans rfl, (blk_cell BK186.out 1).trans rfl, (blk_cell BK186.out 2).trans rfl, (blk_cell BK187.out 0).trans rfl, (blk_cell BK187.out 1).trans rfl, (blk_cell BK187.out 2).trans rfl, ((HB.out.cell (World.block_lt_of_cell? _ _ HCQ2.out)).trans HCQ2.out)⟩ (fun hHeld => ?_)
     clear hK K
     refine norm_ (a' := ?_) ?_ ?_
     rotate_left
     ·
      show Act.put _ (some 37) _ = _
      simp only [Act.put, lS_, lZ_, lC_, i64_w, i32_w]
      rfl
     refine pure_ (i := 21) (N := some 6) (v := ?_) (a' := ?_) #[true, true, true, true, true, true, true, true, true, true, true, true, true, true, true, true, true, true, true, true, true, true] rfl rfl (any_of HT_.out (by kernel_rfl)) (fun _ _ _ h => h) (Or.inl ⟨by rfl, ?_⟩) ?_ ?_
     rotate_left
     ·
      intro w'
      go_simp
      with_reducible rfl
     rotate_left
     ·
      simp only [Act.put, lS_, lZ_, lC_, i64_w, i32_w]
      rfl
     refine done_ (done_of HT_.out (by kernel_rfl)) ?_
     try go_wp2
     go_ret
     exact ⟨by first | rfl | (simp [errW_none, errW_some] <;> rfl) | (simp [*, errW_none, errW_some] <;> rfl), by repeat (first | (with_reducible first | exact HB.out | apply bA_ | apply bN_ | apply bW_ | refine below_set ?_ GE186.out | refine below_set ?_ GE187.out) | exact HB.out)⟩
    ·
     rw [if_neg c7] at H
     exact absurd H (by simp)
   ·
    rw [if_neg c6] at H
    exact absurd H (by simp)
  ·
   rw [if_neg c5] at H
   exact absurd H (by simp)
 ·
  rw [if_neg c4] at H
  exact absurd H (by simp)

end Go.Proofs.Ytcieonfpmchdkaa.PFnBestOrders
