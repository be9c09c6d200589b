/-
  No cell of these rows narrows 'for every input' (looked for: loops, veiled, ifaces, maps, wideKeys, modest, calm, conditions, laid).
  DERIVED. THE GIVEN ROWS OF THIS SEAT. 11 by the template 'for every input the law returns true; each argument reads behind the call as it read before'; 0 by the template 'total and deterministic' (their statements: YtdgacclmnfpajaaTotals.lean).
  GIVEN WITH THE SEED: the statements are not yours to turn. If you find one false, say at which input.
  Laid BY PROGRAM, IN A SANDBOX (cutbox-rows.mjs): the forced cells as the released guide's own fill.sh prints them over the translation f88ab18c0d54e681… (all of the seat's roots in one cut). By AI agents, Wed Nov 11 2026. No macro, syntax, notation, axiom, sorry.
-/
import Derived.Test.YtdgacclmnfpajaaChecked
import GoSem.Claim
import GoSem.ClaimJoined
import GoSem.ClaimMapViews
import Derived.JoinedTies
import Derived.KernelRfl
namespace Go.Proofs.Ytdgacclmnfpajaa
/- THE CELL 'sum', in the pinned program and in every row, IS THE sha256 OF THE DUMP (.gsa) THAT YtdgacclmnfpajaaProg.lean LOADS. Nothing in Lean hashes anything: it is a label: what it is worth is what the hold of that sum in a sandbox is worth. -/
noncomputable def Try.pinned : Pinned := { name := "ytdgacclmnfpajaa", sum := "f88ab18c0d54e681ac355e90cd59bba871bf3dc6d1c56da5cb67c92f8af30ba2", checked := Try.checked }
namespace Rows
def none {H : Type} : Left H := { results := [], args := [] }

/-- 'laws.FnExactMakespan': WHATEVER THE INPUT: true; the input reads as it did. -/
def fnExactMakespanSpec : ChangeSpec := { name := "fnExactMakespan", fn := fun _ => fun
  | [d1, d2] => { results := [.lit (.bool true)], args := [d1, d2] }
  | _ => none }
def fnExactMakespanRow : OpenClaim := { program := "ytdgacclmnfpajaa", sum := "f88ab18c0d54e681ac355e90cd59bba871bf3dc6d1c56da5cb67c92f8af30ba2", func := "loop.example/g00944/laws.FnExactMakespan", spec := "fnExactMakespan", unfollowed := true, recurses := true, apart := false }
def FnExactMakespanSaid : Prop := fnExactMakespanRow.holds Try.pinned (OpenSpec.ofChange fnExactMakespanSpec)

/-- ITS FALSE NEIGHBOUR: 'it returns false'. Refute it at one input. -/
def fnExactMakespanWrong : ChangeSpec := { name := "fnExactMakespan", fn := fun _ => fun
  | [d1, d2] => { results := [.lit (.bool false)], args := [d1, d2] }
  | _ => none }
def FnExactMakespanWrongFalsely : Prop := fnExactMakespanRow.holds Try.pinned (OpenSpec.ofChange fnExactMakespanWrong)

/-- 'laws.FnExactOversFor': WHATEVER THE INPUT: true; the input reads as it did. -/
def fnExactOversForSpec : ChangeSpec := { name := "fnExactOversFor", fn := fun _ => fun
  | [d1, d2] => { results := [.lit (.bool true)], args := [d1, d2] }
  | _ => none }
def fnExactOversForRow : OpenClaim := { program := "ytdgacclmnfpajaa", sum := "f88ab18c0d54e681ac355e90cd59bba871bf3dc6d1c56da5cb67c92f8af30ba2", func := "loop.example/g00944/laws.FnExactOversFor", spec := "fnExactOversFor", unfollowed := true, recurses := true, apart := false }
def FnExactOversForSaid : Prop := fnExactOversForRow.holds Try.pinned (OpenSpec.ofChange fnExactOversForSpec)

/-- ITS FALSE NEIGHBOUR: 'it returns false'. Refute it at one input. -/
def fnExactOversForWrong : ChangeSpec := { name := "fnExactOversFor", fn := fun _ => fun
  | [d1, d2] => { results := [.lit (.bool false)], args := [d1, d2] }
  | _ => none }
def FnExactOversForWrongFalsely : Prop := fnExactOversForRow.holds Try.pinned (OpenSpec.ofChange fnExactOversForWrong)

/-- 'laws.FnExactSpoiledBy': WHATEVER THE INPUT: true; the input reads as it did. -/
def fnExactSpoiledBySpec : ChangeSpec := { name := "fnExactSpoiledBy", fn := fun _ => fun
  | [d1, d2] => { results := [.lit (.bool true)], args := [d1, d2] }
  | _ => none }
def fnExactSpoiledByRow : OpenClaim := { program := "ytdgacclmnfpajaa", sum := "f88ab18c0d54e681ac355e90cd59bba871bf3dc6d1c56da5cb67c92f8af30ba2", func := "loop.example/g00944/laws.FnExactSpoiledBy", spec := "fnExactSpoiledBy", unfollowed := true, recurses := true, apart := false }
def FnExactSpoiledBySaid : Prop := fnExactSpoiledByRow.holds Try.pinned (OpenSpec.ofChange fnExactSpoiledBySpec)

/-- ITS FALSE NEIGHBOUR: 'it returns false'. Refute it at one input. -/
def fnExactSpoiledByWrong : ChangeSpec := { name := "fnExactSpoiledBy", fn := fun _ => fun
  | [d1, d2] => { results := [.lit (.bool false)], args := [d1, d2] }
  | _ => none }
def FnExactSpoiledByWrongFalsely : Prop := fnExactSpoiledByRow.holds Try.pinned (OpenSpec.ofChange fnExactSpoiledByWrong)

/-- 'laws.FnExactCountSetups': WHATEVER THE INPUT: true; the input reads as it did. -/
def fnExactCountSetupsSpec : ChangeSpec := { name := "fnExactCountSetups", fn := fun _ => fun
  | [d1, d2, d3] => { results := [.lit (.bool true)], args := [d1, d2, d3] }
  | _ => none }
def fnExactCountSetupsRow : OpenClaim := { program := "ytdgacclmnfpajaa", sum := "f88ab18c0d54e681ac355e90cd59bba871bf3dc6d1c56da5cb67c92f8af30ba2", func := "loop.example/g00944/laws.FnExactCountSetups", spec := "fnExactCountSetups", unfollowed := true, recurses := true, apart := false }
def FnExactCountSetupsSaid : Prop := fnExactCountSetupsRow.holds Try.pinned (OpenSpec.ofChange fnExactCountSetupsSpec)

/-- ITS FALSE NEIGHBOUR: 'it returns false'. Refute it at one input. -/
def fnExactCountSetupsWrong : ChangeSpec := { name := "fnExactCountSetups", fn := fun _ => fun
  | [d1, d2, d3] => { results := [.lit (.bool false)], args := [d1, d2, d3] }
  | _ => none }
def FnExactCountSetupsWrongFalsely : Prop := fnExactCountSetupsRow.holds Try.pinned (OpenSpec.ofChange fnExactCountSetupsWrong)

/-- 'laws.FnExactIdleTime': WHATEVER THE INPUT: true; the input reads as it did. -/
def fnExactIdleTimeSpec : ChangeSpec := { name := "fnExactIdleTime", fn := fun _ => fun
  | [d1, d2] => { results := [.lit (.bool true)], args := [d1, d2] }
  | _ => none }
def fnExactIdleTimeRow : OpenClaim := { program := "ytdgacclmnfpajaa", sum := "f88ab18c0d54e681ac355e90cd59bba871bf3dc6d1c56da5cb67c92f8af30ba2", func := "loop.example/g00944/laws.FnExactIdleTime", spec := "fnExactIdleTime", unfollowed := true, recurses := true, apart := false }
def FnExactIdleTimeSaid : Prop := fnExactIdleTimeRow.holds Try.pinned (OpenSpec.ofChange fnExactIdleTimeSpec)

/-- ITS FALSE NEIGHBOUR: 'it returns false'. Refute it at one input. -/
def fnExactIdleTimeWrong : ChangeSpec := { name := "fnExactIdleTime", fn := fun _ => fun
  | [d1, d2] => { results := [.lit (.bool false)], args := [d1, d2] }
  | _ => none }
def FnExactIdleTimeWrongFalsely : Prop := fnExactIdleTimeRow.holds Try.pinned (OpenSpec.ofChange fnExactIdleTimeWrong)

/-- 'laws.FnWeights': WHATEVER THE INPUT: true; the input reads as it did. -/
def fnWeightsSpec : ChangeSpec := { name := "fnWeights", fn := fun _ => fun
  | [d] => { results := [.lit (.bool true)], args := [d] }
  | _ => none }
def fnWeightsRow : OpenClaim := { program := "ytdgacclmnfpajaa", sum := "f88ab18c0d54e681ac355e90cd59bba871bf3dc6d1c56da5cb67c92f8af30ba2", func := "loop.example/g00944/laws.FnWeights", spec := "fnWeights", unfollowed := true, recurses := true, apart := false }
def FnWeightsSaid : Prop := fnWeightsRow.holds Try.pinned (OpenSpec.ofChange fnWeightsSpec)

/-- ITS FALSE NEIGHBOUR: 'it returns false'. Refute it at one input. -/
def fnWeightsWrong : ChangeSpec := { name := "fnWeights", fn := fun _ => fun
  | [d] => { results := [.lit (.bool false)], args := [d] }
  | _ => none }
def FnWeightsWrongFalsely : Prop := fnWeightsRow.holds Try.pinned (OpenSpec.ofChange fnWeightsWrong)

/-- 'laws.FnExactTotalTardiness': WHATEVER THE INPUT: true; the input reads as it did. -/
def fnExactTotalTardinessSpec : ChangeSpec := { name := "fnExactTotalTardiness", fn := fun _ => fun
  | [d1, d2, d3] => { results := [.lit (.bool true)], args := [d1, d2, d3] }
  | _ => none }
def fnExactTotalTardinessRow : OpenClaim := { program := "ytdgacclmnfpajaa", sum := "f88ab18c0d54e681ac355e90cd59bba871bf3dc6d1c56da5cb67c92f8af30ba2", func := "loop.example/g00944/laws.FnExactTotalTardiness", spec := "fnExactTotalTardiness", unfollowed := true, recurses := true, apart := false }
def FnExactTotalTardinessSaid : Prop := fnExactTotalTardinessRow.holds Try.pinned (OpenSpec.ofChange fnExactTotalTardinessSpec)

/-- ITS FALSE NEIGHBOUR: 'it returns false'. Refute it at one input. -/
def fnExactTotalTardinessWrong : ChangeSpec := { name := "fnExactTotalTardiness", fn := fun _ => fun
  | [d1, d2, d3] => { results := [.lit (.bool false)], args := [d1, d2, d3] }
  | _ => none }
def FnExactTotalTardinessWrongFalsely : Prop := fnExactTotalTardinessRow.holds Try.pinned (OpenSpec.ofChange fnExactTotalTardinessWrong)

/-- 'laws.FnInputs': WHATEVER THE INPUT: true; the input reads as it did. -/
def fnInputsSpec : ChangeSpec := { name := "fnInputs", fn := fun _ => fun
  | [d] => { results := [.lit (.bool true)], args := [d] }
  | _ => none }
def fnInputsRow : OpenClaim := { program := "ytdgacclmnfpajaa", sum := "f88ab18c0d54e681ac355e90cd59bba871bf3dc6d1c56da5cb67c92f8af30ba2", func := "loop.example/g00944/laws.FnInputs", spec := "fnInputs", unfollowed := true, recurses := true, apart := false }
def FnInputsSaid : Prop := fnInputsRow.holds Try.pinned (OpenSpec.ofChange fnInputsSpec)

/-- ITS FALSE NEIGHBOUR: 'it returns false'. Refute it at one input. -/
def fnInputsWrong : ChangeSpec := { name := "fnInputs", fn := fun _ => fun
  | [d] => { results := [.lit (.bool false)], args := [d] }
  | _ => none }
def FnInputsWrongFalsely : Prop := fnInputsRow.holds Try.pinned (OpenSpec.ofChange fnInputsWrong)

/-- 'laws.FnExactTurnFlow': WHATEVER THE INPUT: true; the input reads as it did. -/
def fnExactTurnFlowSpec : ChangeSpec := { name := "fnExactTurnFlow", fn := fun _ => fun
  | [d1, d2] => { results := [.lit (.bool true)], args := [d1, d2] }
  | _ => none }
def fnExactTurnFlowRow : OpenClaim := { program := "ytdgacclmnfpajaa", sum := "f88ab18c0d54e681ac355e90cd59bba871bf3dc6d1c56da5cb67c92f8af30ba2", func := "loop.example/g00944/laws.FnExactTurnFlow", spec := "fnExactTurnFlow", unfollowed := true, recurses := true, apart := false }
def FnExactTurnFlowSaid : Prop := fnExactTurnFlowRow.holds Try.pinned (OpenSpec.ofChange fnExactTurnFlowSpec)

/-- ITS FALSE NEIGHBOUR: 'it returns false'. Refute it at one input. -/
def fnExactTurnFlowWrong : ChangeSpec := { name := "fnExactTurnFlow", fn := fun _ => fun
  | [d1, d2] => { results := [.lit (.bool false)], args := [d1, d2] }
  | _ => none }
def FnExactTurnFlowWrongFalsely : Prop := fnExactTurnFlowRow.holds Try.pinned (OpenSpec.ofChange fnExactTurnFlowWrong)

/-- 'laws.FnExactDoneTimes': WHATEVER THE INPUT: true; the input reads as it did. -/
def fnExactDoneTimesSpec : ChangeSpec := { name := "fnExactDoneTimes", fn := fun _ => fun
  | [d1, d2, d3] => { results := [.lit (.bool true)], args := [d1, d2, d3] }
  | _ => none }
def fnExactDoneTimesRow : OpenClaim := { program := "ytdgacclmnfpajaa", sum := "f88ab18c0d54e681ac355e90cd59bba871bf3dc6d1c56da5cb67c92f8af30ba2", func := "loop.example/g00944/laws.FnExactDoneTimes", spec := "fnExactDoneTimes", unfollowed := true, recurses := true, apart := false }
def FnExactDoneTimesSaid : Prop := fnExactDoneTimesRow.holds Try.pinned (OpenSpec.ofChange fnExactDoneTimesSpec)

/-- ITS FALSE NEIGHBOUR: 'it returns false'. Refute it at one input. -/
def fnExactDoneTimesWrong : ChangeSpec := { name := "fnExactDoneTimes", fn := fun _ => fun
  | [d1, d2, d3] => { results := [.lit (.bool false)], args := [d1, d2, d3] }
  | _ => none }
def FnExactDoneTimesWrongFalsely : Prop := fnExactDoneTimesRow.holds Try.pinned (OpenSpec.ofChange fnExactDoneTimesWrong)

/-- 'laws.FnExactMostLate': WHATEVER THE INPUT: true; the input reads as it did. -/
def fnExactMostLateSpec : ChangeSpec := { name := "fnExactMostLate", fn := fun _ => fun
  | [d1, d2, d3] => { results := [.lit (.bool true)], args := [d1, d2, d3] }
  | _ => none }
def fnExactMostLateRow : OpenClaim := { program := "ytdgacclmnfpajaa", sum := "f88ab18c0d54e681ac355e90cd59bba871bf3dc6d1c56da5cb67c92f8af30ba2", func := "loop.example/g00944/laws.FnExactMostLate", spec := "fnExactMostLate", unfollowed := true, recurses := true, apart := false }
def FnExactMostLateSaid : Prop := fnExactMostLateRow.holds Try.pinned (OpenSpec.ofChange fnExactMostLateSpec)

/-- ITS FALSE NEIGHBOUR: 'it returns false'. Refute it at one input. -/
def fnExactMostLateWrong : ChangeSpec := { name := "fnExactMostLate", fn := fun _ => fun
  | [d1, d2, d3] => { results := [.lit (.bool false)], args := [d1, d2, d3] }
  | _ => none }
def FnExactMostLateWrongFalsely : Prop := fnExactMostLateRow.holds Try.pinned (OpenSpec.ofChange fnExactMostLateWrong)

/- THE SECOND FORM. 'bulk': how many values and letters a reading holds, each counted each time it is reached (what is shared counts as often as it is met; a slice's spare places count too). A statement '..UptoSaid' is the law's where the arguments, and the package variables that the reading takes, are together of bulk at most 1048576: NARROWER than '..Said'. Prove '..Said' where nothing that the law and all that it calls make is longer than what came in: it says more and counts as full. Else prove '..UptoSaid'. A law counts once. -/
mutual
def uptoBulk {H : Type} : DataW H → Nat
  | .lit (.string bytes) => bytes.length + 1
  | .lit _ => 1
  | .nil => 1
  | .ptr d => uptoBulk d + 1
  | .slice elems spare => uptoBulkAll elems + uptoBulkAll spare + 1
  | .agg parts => uptoBulkAll parts + 1
  | .iface _ d => uptoBulk d + 1
  | .map entries => uptoBulkEntries entries + 1
  | .held _ => 1
def uptoBulkAll {H : Type} : List (DataW H) → Nat
  | [] => 0
  | d :: r => uptoBulk d + uptoBulkAll r
def uptoBulkEntries {H : Type} : List (Lit × DataW H) → Nat
  | [] => 0
  | x :: r => uptoBulkEntry x + uptoBulkEntries r
def uptoBulkEntry {H : Type} : Lit × DataW H → Nat
  | (.string bytes, d) => bytes.length + uptoBulk d + 1
  | (_, d) => uptoBulk d + 1
 end
def uptoSmall : (H : Type) → List (DataW H) → Bool := fun _ ds => decide (uptoBulkAll ds ≤ 1048576)
def OpenSpec.upto (s : _root_.Go.ChangeSpec) : _root_.Go.OpenSpec := { _root_.Go.OpenSpec.ofChange s with cond := some uptoSmall }

/-- 'laws.FnExactMakespan', WHERE WHAT IT READS IS OF BULK AT MOST 1048576: true; the input reads as it did. -/
def fnExactMakespanUptoRow : OpenClaim := { program := "ytdgacclmnfpajaa", sum := "f88ab18c0d54e681ac355e90cd59bba871bf3dc6d1c56da5cb67c92f8af30ba2", func := "loop.example/g00944/laws.FnExactMakespan", spec := "fnExactMakespan", unfollowed := true, recurses := true, apart := false, narrowed := true }
def FnExactMakespanUptoSaid : Prop := fnExactMakespanUptoRow.holds Try.pinned (OpenSpec.upto fnExactMakespanSpec)

/-- 'laws.FnExactOversFor', WHERE WHAT IT READS IS OF BULK AT MOST 1048576: true; the input reads as it did. -/
def fnExactOversForUptoRow : OpenClaim := { program := "ytdgacclmnfpajaa", sum := "f88ab18c0d54e681ac355e90cd59bba871bf3dc6d1c56da5cb67c92f8af30ba2", func := "loop.example/g00944/laws.FnExactOversFor", spec := "fnExactOversFor", unfollowed := true, recurses := true, apart := false, narrowed := true }
def FnExactOversForUptoSaid : Prop := fnExactOversForUptoRow.holds Try.pinned (OpenSpec.upto fnExactOversForSpec)

/-- 'laws.FnExactSpoiledBy', WHERE WHAT IT READS IS OF BULK AT MOST 1048576: true; the input reads as it did. -/
def fnExactSpoiledByUptoRow : OpenClaim := { program := "ytdgacclmnfpajaa", sum := "f88ab18c0d54e681ac355e90cd59bba871bf3dc6d1c56da5cb67c92f8af30ba2", func := "loop.example/g00944/laws.FnExactSpoiledBy", spec := "fnExactSpoiledBy", unfollowed := true, recurses := true, apart := false, narrowed := true }
def FnExactSpoiledByUptoSaid : Prop := fnExactSpoiledByUptoRow.holds Try.pinned (OpenSpec.upto fnExactSpoiledBySpec)

/-- 'laws.FnExactCountSetups', WHERE WHAT IT READS IS OF BULK AT MOST 1048576: true; the input reads as it did. -/
def fnExactCountSetupsUptoRow : OpenClaim := { program := "ytdgacclmnfpajaa", sum := "f88ab18c0d54e681ac355e90cd59bba871bf3dc6d1c56da5cb67c92f8af30ba2", func := "loop.example/g00944/laws.FnExactCountSetups", spec := "fnExactCountSetups", unfollowed := true, recurses := true, apart := false, narrowed := true }
def FnExactCountSetupsUptoSaid : Prop := fnExactCountSetupsUptoRow.holds Try.pinned (OpenSpec.upto fnExactCountSetupsSpec)

/-- 'laws.FnExactIdleTime', WHERE WHAT IT READS IS OF BULK AT MOST 1048576: true; the input reads as it did. -/
def fnExactIdleTimeUptoRow : OpenClaim := { program := "ytdgacclmnfpajaa", sum := "f88ab18c0d54e681ac355e90cd59bba871bf3dc6d1c56da5cb67c92f8af30ba2", func := "loop.example/g00944/laws.FnExactIdleTime", spec := "fnExactIdleTime", unfollowed := true, recurses := true, apart := false, narrowed := true }
def FnExactIdleTimeUptoSaid : Prop := fnExactIdleTimeUptoRow.holds Try.pinned (OpenSpec.upto fnExactIdleTimeSpec)

/-- 'laws.FnWeights', WHERE WHAT IT READS IS OF BULK AT MOST 1048576: true; the input reads as it did. -/
def fnWeightsUptoRow : OpenClaim := { program := "ytdgacclmnfpajaa", sum := "f88ab18c0d54e681ac355e90cd59bba871bf3dc6d1c56da5cb67c92f8af30ba2", func := "loop.example/g00944/laws.FnWeights", spec := "fnWeights", unfollowed := true, recurses := true, apart := false, narrowed := true }
def FnWeightsUptoSaid : Prop := fnWeightsUptoRow.holds Try.pinned (OpenSpec.upto fnWeightsSpec)

/-- 'laws.FnExactTotalTardiness', WHERE WHAT IT READS IS OF BULK AT MOST 1048576: true; the input reads as it did. -/
def fnExactTotalTardinessUptoRow : OpenClaim := { program := "ytdgacclmnfpajaa", sum := "f88ab18c0d54e681ac355e90cd59bba871bf3dc6d1c56da5cb67c92f8af30ba2", func := "loop.example/g00944/laws.FnExactTotalTardiness", spec := "fnExactTotalTardiness", unfollowed := true, recurses := true, apart := false, narrowed := true }
def FnExactTotalTardinessUptoSaid : Prop := fnExactTotalTardinessUptoRow.holds Try.pinned (OpenSpec.upto fnExactTotalTardinessSpec)

/-- 'laws.FnInputs', WHERE WHAT IT READS IS OF BULK AT MOST 1048576: true; the input reads as it did. -/
def fnInputsUptoRow : OpenClaim := { program := "ytdgacclmnfpajaa", sum := "f88ab18c0d54e681ac355e90cd59bba871bf3dc6d1c56da5cb67c92f8af30ba2", func := "loop.example/g00944/laws.FnInputs", spec := "fnInputs", unfollowed := true, recurses := true, apart := false, narrowed := true }
def FnInputsUptoSaid : Prop := fnInputsUptoRow.holds Try.pinned (OpenSpec.upto fnInputsSpec)

/-- 'laws.FnExactTurnFlow', WHERE WHAT IT READS IS OF BULK AT MOST 1048576: true; the input reads as it did. -/
def fnExactTurnFlowUptoRow : OpenClaim := { program := "ytdgacclmnfpajaa", sum := "f88ab18c0d54e681ac355e90cd59bba871bf3dc6d1c56da5cb67c92f8af30ba2", func := "loop.example/g00944/laws.FnExactTurnFlow", spec := "fnExactTurnFlow", unfollowed := true, recurses := true, apart := false, narrowed := true }
def FnExactTurnFlowUptoSaid : Prop := fnExactTurnFlowUptoRow.holds Try.pinned (OpenSpec.upto fnExactTurnFlowSpec)

/-- 'laws.FnExactDoneTimes', WHERE WHAT IT READS IS OF BULK AT MOST 1048576: true; the input reads as it did. -/
def fnExactDoneTimesUptoRow : OpenClaim := { program := "ytdgacclmnfpajaa", sum := "f88ab18c0d54e681ac355e90cd59bba871bf3dc6d1c56da5cb67c92f8af30ba2", func := "loop.example/g00944/laws.FnExactDoneTimes", spec := "fnExactDoneTimes", unfollowed := true, recurses := true, apart := false, narrowed := true }
def FnExactDoneTimesUptoSaid : Prop := fnExactDoneTimesUptoRow.holds Try.pinned (OpenSpec.upto fnExactDoneTimesSpec)

/-- 'laws.FnExactMostLate', WHERE WHAT IT READS IS OF BULK AT MOST 1048576: true; the input reads as it did. -/
def fnExactMostLateUptoRow : OpenClaim := { program := "ytdgacclmnfpajaa", sum := "f88ab18c0d54e681ac355e90cd59bba871bf3dc6d1c56da5cb67c92f8af30ba2", func := "loop.example/g00944/laws.FnExactMostLate", spec := "fnExactMostLate", unfollowed := true, recurses := true, apart := false, narrowed := true }
def FnExactMostLateUptoSaid : Prop := fnExactMostLateUptoRow.holds Try.pinned (OpenSpec.upto fnExactMostLateSpec)

end Rows
end Go.Proofs.Ytdgacclmnfpajaa
