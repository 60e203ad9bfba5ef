/-
  No cell of these rows narrows 'for every input' (looked for: loops, veiled, ifaces, maps, wideKeys, modest, calm, conditions, laid).
  DERIVED. THE GIVEN ROWS OF THIS SEAT. 11 by the template 'for every input the law returns true; each argument reads behind the call as it read before'; 0 by the template 'total and deterministic' (their statements: YtkoeplbkeboklaaTotals.lean).
  GIVEN WITH THE SEED: the statements are not yours to turn. If you find one false, say at which input.
  Laid BY PROGRAM, IN A SANDBOX (cutbox-rows.mjs): the forced cells as the released guide's own fill.sh prints them over the translation 8c937597f9ad00b0… (all of the seat's roots in one cut). By AI agents, Wed Nov 11 2026. No macro, syntax, notation, axiom, sorry.
-/
import Derived.Test.YtkoeplbkeboklaaChecked
import GoSem.Claim
import GoSem.ClaimJoined
import GoSem.ClaimMapViews
import Derived.JoinedTies
import Derived.KernelRfl
namespace Go.Proofs.Ytkoeplbkeboklaa
/- THE CELL 'sum', in the pinned program and in every row, IS THE sha256 OF THE DUMP (.gsa) THAT YtkoeplbkeboklaaProg.lean LOADS. Nothing in Lean hashes anything: it is a label: what it is worth is what the hold of that sum in a sandbox is worth. -/
noncomputable def Try.pinned : Pinned := { name := "ytkoeplbkeboklaa", sum := "8c937597f9ad00b0e0caf2d5e909e84aa88c5160fb54bdef35bef0936f6f24d9", checked := Try.checked }
namespace Rows
def none {H : Type} : Left H := { results := [], args := [] }

/-- 'afterwordlaw14.RetroLives': WHATEVER THE INPUT: true; the input reads as it did. -/
def retroLivesSpec : ChangeSpec := { name := "retroLives", fn := fun _ => fun
  | [d] => { results := [.lit (.bool true)], args := [d] }
  | _ => none }
def retroLivesRow : OpenClaim := { program := "ytkoeplbkeboklaa", sum := "8c937597f9ad00b0e0caf2d5e909e84aa88c5160fb54bdef35bef0936f6f24d9", func := "afterword/afterwordlaw14.RetroLives", spec := "retroLives", inPlace := ["slices.overlaps[afterword/api.RetroStep]"], unfollowed := true, recurses := true, apart := false }
def RetroLivesSaid : Prop := retroLivesRow.holds Try.pinned (OpenSpec.ofChange retroLivesSpec)

/-- ITS FALSE NEIGHBOUR: 'it returns false'. Refute it at one input. -/
def retroLivesWrong : ChangeSpec := { name := "retroLives", fn := fun _ => fun
  | [d] => { results := [.lit (.bool false)], args := [d] }
  | _ => none }
def RetroLivesWrongFalsely : Prop := retroLivesRow.holds Try.pinned (OpenSpec.ofChange retroLivesWrong)

/-- 'afterwordlaw14.RetroInserts': WHATEVER THE INPUT: true; the input reads as it did. -/
def retroInsertsSpec : ChangeSpec := { name := "retroInserts", fn := fun _ => fun
  | [d1, d2] => { results := [.lit (.bool true)], args := [d1, d2] }
  | _ => none }
def retroInsertsRow : OpenClaim := { program := "ytkoeplbkeboklaa", sum := "8c937597f9ad00b0e0caf2d5e909e84aa88c5160fb54bdef35bef0936f6f24d9", func := "afterword/afterwordlaw14.RetroInserts", spec := "retroInserts", inPlace := ["slices.overlaps[afterword/api.RetroStep]"], unfollowed := true, recurses := true, apart := false }
def RetroInsertsSaid : Prop := retroInsertsRow.holds Try.pinned (OpenSpec.ofChange retroInsertsSpec)

/-- ITS FALSE NEIGHBOUR: 'it returns false'. Refute it at one input. -/
def retroInsertsWrong : ChangeSpec := { name := "retroInserts", fn := fun _ => fun
  | [d1, d2] => { results := [.lit (.bool false)], args := [d1, d2] }
  | _ => none }
def RetroInsertsWrongFalsely : Prop := retroInsertsRow.holds Try.pinned (OpenSpec.ofChange retroInsertsWrong)

/-- 'afterwordlaw14.RetroDeletes': WHATEVER THE INPUT: true; the input reads as it did. -/
def retroDeletesSpec : ChangeSpec := { name := "retroDeletes", fn := fun _ => fun
  | [d1, d2] => { results := [.lit (.bool true)], args := [d1, d2] }
  | _ => none }
def retroDeletesRow : OpenClaim := { program := "ytkoeplbkeboklaa", sum := "8c937597f9ad00b0e0caf2d5e909e84aa88c5160fb54bdef35bef0936f6f24d9", func := "afterword/afterwordlaw14.RetroDeletes", spec := "retroDeletes", inPlace := ["slices.overlaps[afterword/api.RetroStep]"], unfollowed := true, recurses := true, apart := false }
def RetroDeletesSaid : Prop := retroDeletesRow.holds Try.pinned (OpenSpec.ofChange retroDeletesSpec)

/-- ITS FALSE NEIGHBOUR: 'it returns false'. Refute it at one input. -/
def retroDeletesWrong : ChangeSpec := { name := "retroDeletes", fn := fun _ => fun
  | [d1, d2] => { results := [.lit (.bool false)], args := [d1, d2] }
  | _ => none }
def RetroDeletesWrongFalsely : Prop := retroDeletesRow.holds Try.pinned (OpenSpec.ofChange retroDeletesWrong)

/-- 'afterwordlaw14.RetroSlims': WHATEVER THE INPUT: true; the input reads as it did. -/
def retroSlimsSpec : ChangeSpec := { name := "retroSlims", fn := fun _ => fun
  | [d1, d2] => { results := [.lit (.bool true)], args := [d1, d2] }
  | _ => none }
def retroSlimsRow : OpenClaim := { program := "ytkoeplbkeboklaa", sum := "8c937597f9ad00b0e0caf2d5e909e84aa88c5160fb54bdef35bef0936f6f24d9", func := "afterword/afterwordlaw14.RetroSlims", spec := "retroSlims", inPlace := ["slices.overlaps[afterword/api.RetroStep]"], unfollowed := true, recurses := true, apart := false }
def RetroSlimsSaid : Prop := retroSlimsRow.holds Try.pinned (OpenSpec.ofChange retroSlimsSpec)

/-- ITS FALSE NEIGHBOUR: 'it returns false'. Refute it at one input. -/
def retroSlimsWrong : ChangeSpec := { name := "retroSlims", fn := fun _ => fun
  | [d1, d2] => { results := [.lit (.bool false)], args := [d1, d2] }
  | _ => none }
def RetroSlimsWrongFalsely : Prop := retroSlimsRow.holds Try.pinned (OpenSpec.ofChange retroSlimsWrong)

/-- 'afterwordlaw14.RetroAts': WHATEVER THE INPUT: true; the input reads as it did. -/
def retroAtsSpec : ChangeSpec := { name := "retroAts", fn := fun _ => fun
  | [d1, d2] => { results := [.lit (.bool true)], args := [d1, d2] }
  | _ => none }
def retroAtsRow : OpenClaim := { program := "ytkoeplbkeboklaa", sum := "8c937597f9ad00b0e0caf2d5e909e84aa88c5160fb54bdef35bef0936f6f24d9", func := "afterword/afterwordlaw14.RetroAts", spec := "retroAts", inPlace := ["slices.overlaps[afterword/api.RetroStep]"], unfollowed := true, recurses := true, apart := false }
def RetroAtsSaid : Prop := retroAtsRow.holds Try.pinned (OpenSpec.ofChange retroAtsSpec)

/-- ITS FALSE NEIGHBOUR: 'it returns false'. Refute it at one input. -/
def retroAtsWrong : ChangeSpec := { name := "retroAts", fn := fun _ => fun
  | [d1, d2] => { results := [.lit (.bool false)], args := [d1, d2] }
  | _ => none }
def RetroAtsWrongFalsely : Prop := retroAtsRow.holds Try.pinned (OpenSpec.ofChange retroAtsWrong)

/-- 'afterwordlaw14.RetroDiffs': WHATEVER THE INPUT: true; the input reads as it did. -/
def retroDiffsSpec : ChangeSpec := { name := "retroDiffs", fn := fun _ => fun
  | [d1, d2] => { results := [.lit (.bool true)], args := [d1, d2] }
  | _ => none }
def retroDiffsRow : OpenClaim := { program := "ytkoeplbkeboklaa", sum := "8c937597f9ad00b0e0caf2d5e909e84aa88c5160fb54bdef35bef0936f6f24d9", func := "afterword/afterwordlaw14.RetroDiffs", spec := "retroDiffs", inPlace := ["slices.overlaps[afterword/api.RetroStep]"], unfollowed := true, recurses := true, apart := false }
def RetroDiffsSaid : Prop := retroDiffsRow.holds Try.pinned (OpenSpec.ofChange retroDiffsSpec)

/-- ITS FALSE NEIGHBOUR: 'it returns false'. Refute it at one input. -/
def retroDiffsWrong : ChangeSpec := { name := "retroDiffs", fn := fun _ => fun
  | [d1, d2] => { results := [.lit (.bool false)], args := [d1, d2] }
  | _ => none }
def RetroDiffsWrongFalsely : Prop := retroDiffsRow.holds Try.pinned (OpenSpec.ofChange retroDiffsWrong)

/-- 'afterwordlaw14.RetroKnown': WHATEVER THE INPUT: true; the input reads as it did. -/
def retroKnownSpec : ChangeSpec := { name := "retroKnown", fn := fun _ => fun
  | [] => { results := [.lit (.bool true)], args := [] }
  | _ => none }
def retroKnownRow : OpenClaim := { program := "ytkoeplbkeboklaa", sum := "8c937597f9ad00b0e0caf2d5e909e84aa88c5160fb54bdef35bef0936f6f24d9", func := "afterword/afterwordlaw14.RetroKnown", spec := "retroKnown", inPlace := ["slices.overlaps[afterword/api.RetroStep]"], unfollowed := true, recurses := true, apart := false }
def RetroKnownSaid : Prop := retroKnownRow.holds Try.pinned (OpenSpec.ofChange retroKnownSpec)

/-- ITS FALSE NEIGHBOUR: 'it returns false'. Refute it at one input. -/
def retroKnownWrong : ChangeSpec := { name := "retroKnown", fn := fun _ => fun
  | [] => { results := [.lit (.bool false)], args := [] }
  | _ => none }
def RetroKnownWrongFalsely : Prop := retroKnownRow.holds Try.pinned (OpenSpec.ofChange retroKnownWrong)

/-- 'afterwordlaw14.RetroOrder': WHATEVER THE INPUT: true; the input reads as it did. -/
def retroOrderSpec : ChangeSpec := { name := "retroOrder", fn := fun _ => fun
  | [d1, d2, d3, d4] => { results := [.lit (.bool true)], args := [d1, d2, d3, d4] }
  | _ => none }
def retroOrderRow : OpenClaim := { program := "ytkoeplbkeboklaa", sum := "8c937597f9ad00b0e0caf2d5e909e84aa88c5160fb54bdef35bef0936f6f24d9", func := "afterword/afterwordlaw14.RetroOrder", spec := "retroOrder", inPlace := ["slices.overlaps[afterword/api.RetroStep]"], unfollowed := true, recurses := true, apart := false }
def RetroOrderSaid : Prop := retroOrderRow.holds Try.pinned (OpenSpec.ofChange retroOrderSpec)

/-- ITS FALSE NEIGHBOUR: 'it returns false'. Refute it at one input. -/
def retroOrderWrong : ChangeSpec := { name := "retroOrder", fn := fun _ => fun
  | [d1, d2, d3, d4] => { results := [.lit (.bool false)], args := [d1, d2, d3, d4] }
  | _ => none }
def RetroOrderWrongFalsely : Prop := retroOrderRow.holds Try.pinned (OpenSpec.ofChange retroOrderWrong)

/-- 'afterwordlaw14.RetroSpans': WHATEVER THE INPUT: true; the input reads as it did. -/
def retroSpansSpec : ChangeSpec := { name := "retroSpans", fn := fun _ => fun
  | [d1, d2, d3] => { results := [.lit (.bool true)], args := [d1, d2, d3] }
  | _ => none }
def retroSpansRow : OpenClaim := { program := "ytkoeplbkeboklaa", sum := "8c937597f9ad00b0e0caf2d5e909e84aa88c5160fb54bdef35bef0936f6f24d9", func := "afterword/afterwordlaw14.RetroSpans", spec := "retroSpans", inPlace := ["slices.overlaps[afterword/api.RetroStep]"], unfollowed := true, recurses := true, apart := false }
def RetroSpansSaid : Prop := retroSpansRow.holds Try.pinned (OpenSpec.ofChange retroSpansSpec)

/-- ITS FALSE NEIGHBOUR: 'it returns false'. Refute it at one input. -/
def retroSpansWrong : ChangeSpec := { name := "retroSpans", fn := fun _ => fun
  | [d1, d2, d3] => { results := [.lit (.bool false)], args := [d1, d2, d3] }
  | _ => none }
def RetroSpansWrongFalsely : Prop := retroSpansRow.holds Try.pinned (OpenSpec.ofChange retroSpansWrong)

/-- 'afterwordlaw14.RetroSlimmed': WHATEVER THE INPUT: true; the input reads as it did. -/
def retroSlimmedSpec : ChangeSpec := { name := "retroSlimmed", fn := fun _ => fun
  | [d1, d2, d3, d4] => { results := [.lit (.bool true)], args := [d1, d2, d3, d4] }
  | _ => none }
def retroSlimmedRow : OpenClaim := { program := "ytkoeplbkeboklaa", sum := "8c937597f9ad00b0e0caf2d5e909e84aa88c5160fb54bdef35bef0936f6f24d9", func := "afterword/afterwordlaw14.RetroSlimmed", spec := "retroSlimmed", inPlace := ["slices.overlaps[afterword/api.RetroStep]"], unfollowed := true, recurses := true, apart := false }
def RetroSlimmedSaid : Prop := retroSlimmedRow.holds Try.pinned (OpenSpec.ofChange retroSlimmedSpec)

/-- ITS FALSE NEIGHBOUR: 'it returns false'. Refute it at one input. -/
def retroSlimmedWrong : ChangeSpec := { name := "retroSlimmed", fn := fun _ => fun
  | [d1, d2, d3, d4] => { results := [.lit (.bool false)], args := [d1, d2, d3, d4] }
  | _ => none }
def RetroSlimmedWrongFalsely : Prop := retroSlimmedRow.holds Try.pinned (OpenSpec.ofChange retroSlimmedWrong)

/-- 'afterwordlaw14.RetroOne': WHATEVER THE INPUT: true; the input reads as it did. -/
def retroOneSpec : ChangeSpec := { name := "retroOne", fn := fun _ => fun
  | [d1, d2, d3] => { results := [.lit (.bool true)], args := [d1, d2, d3] }
  | _ => none }
def retroOneRow : OpenClaim := { program := "ytkoeplbkeboklaa", sum := "8c937597f9ad00b0e0caf2d5e909e84aa88c5160fb54bdef35bef0936f6f24d9", func := "afterword/afterwordlaw14.RetroOne", spec := "retroOne", inPlace := ["slices.overlaps[afterword/api.RetroStep]"], unfollowed := true, recurses := true, apart := false }
def RetroOneSaid : Prop := retroOneRow.holds Try.pinned (OpenSpec.ofChange retroOneSpec)

/-- ITS FALSE NEIGHBOUR: 'it returns false'. Refute it at one input. -/
def retroOneWrong : ChangeSpec := { name := "retroOne", fn := fun _ => fun
  | [d1, d2, d3] => { results := [.lit (.bool false)], args := [d1, d2, d3] }
  | _ => none }
def RetroOneWrongFalsely : Prop := retroOneRow.holds Try.pinned (OpenSpec.ofChange retroOneWrong)

/- THE SECOND FORM. 'bulk': how many values and letters a reading holds, each counted each time it is reached (what is shared counts as often as it is met; a slice's spare places count too). A statement '..UptoSaid' is the law's where the arguments, and the package variables that the reading takes, are together of bulk at most 1048576: NARROWER than '..Said'. Prove '..Said' where nothing that the law and all that it calls make is longer than what came in: it says more and counts as full. Else prove '..UptoSaid'. A law counts once. -/
mutual
def uptoBulk {H : Type} : DataW H → Nat
  | .lit (.string bytes) => bytes.length + 1
  | .lit _ => 1
  | .nil => 1
  | .ptr d => uptoBulk d + 1
  | .slice elems spare => uptoBulkAll elems + uptoBulkAll spare + 1
  | .agg parts => uptoBulkAll parts + 1
  | .iface _ d => uptoBulk d + 1
  | .map entries => uptoBulkEntries entries + 1
  | .held _ => 1
def uptoBulkAll {H : Type} : List (DataW H) → Nat
  | [] => 0
  | d :: r => uptoBulk d + uptoBulkAll r
def uptoBulkEntries {H : Type} : List (Lit × DataW H) → Nat
  | [] => 0
  | x :: r => uptoBulkEntry x + uptoBulkEntries r
def uptoBulkEntry {H : Type} : Lit × DataW H → Nat
  | (.string bytes, d) => bytes.length + uptoBulk d + 1
  | (_, d) => uptoBulk d + 1
 end
def uptoSmall : (H : Type) → List (DataW H) → Bool := fun _ ds => decide (uptoBulkAll ds ≤ 1048576)
def OpenSpec.upto (s : _root_.Go.ChangeSpec) : _root_.Go.OpenSpec := { _root_.Go.OpenSpec.ofChange s with cond := some uptoSmall }

/-- 'afterwordlaw14.RetroLives', WHERE WHAT IT READS IS OF BULK AT MOST 1048576: true; the input reads as it did. -/
def retroLivesUptoRow : OpenClaim := { program := "ytkoeplbkeboklaa", sum := "8c937597f9ad00b0e0caf2d5e909e84aa88c5160fb54bdef35bef0936f6f24d9", func := "afterword/afterwordlaw14.RetroLives", spec := "retroLives", inPlace := ["slices.overlaps[afterword/api.RetroStep]"], unfollowed := true, recurses := true, apart := false, narrowed := true }
def RetroLivesUptoSaid : Prop := retroLivesUptoRow.holds Try.pinned (OpenSpec.upto retroLivesSpec)

/-- 'afterwordlaw14.RetroInserts', WHERE WHAT IT READS IS OF BULK AT MOST 1048576: true; the input reads as it did. -/
def retroInsertsUptoRow : OpenClaim := { program := "ytkoeplbkeboklaa", sum := "8c937597f9ad00b0e0caf2d5e909e84aa88c5160fb54bdef35bef0936f6f24d9", func := "afterword/afterwordlaw14.RetroInserts", spec := "retroInserts", inPlace := ["slices.overlaps[afterword/api.RetroStep]"], unfollowed := true, recurses := true, apart := false, narrowed := true }
def RetroInsertsUptoSaid : Prop := retroInsertsUptoRow.holds Try.pinned (OpenSpec.upto retroInsertsSpec)

/-- 'afterwordlaw14.RetroDeletes', WHERE WHAT IT READS IS OF BULK AT MOST 1048576: true; the input reads as it did. -/
def retroDeletesUptoRow : OpenClaim := { program := "ytkoeplbkeboklaa", sum := "8c937597f9ad00b0e0caf2d5e909e84aa88c5160fb54bdef35bef0936f6f24d9", func := "afterword/afterwordlaw14.RetroDeletes", spec := "retroDeletes", inPlace := ["slices.overlaps[afterword/api.RetroStep]"], unfollowed := true, recurses := true, apart := false, narrowed := true }
def RetroDeletesUptoSaid : Prop := retroDeletesUptoRow.holds Try.pinned (OpenSpec.upto retroDeletesSpec)

/-- 'afterwordlaw14.RetroSlims', WHERE WHAT IT READS IS OF BULK AT MOST 1048576: true; the input reads as it did. -/
def retroSlimsUptoRow : OpenClaim := { program := "ytkoeplbkeboklaa", sum := "8c937597f9ad00b0e0caf2d5e909e84aa88c5160fb54bdef35bef0936f6f24d9", func := "afterword/afterwordlaw14.RetroSlims", spec := "retroSlims", inPlace := ["slices.overlaps[afterword/api.RetroStep]"], unfollowed := true, recurses := true, apart := false, narrowed := true }
def RetroSlimsUptoSaid : Prop := retroSlimsUptoRow.holds Try.pinned (OpenSpec.upto retroSlimsSpec)

/-- 'afterwordlaw14.RetroAts', WHERE WHAT IT READS IS OF BULK AT MOST 1048576: true; the input reads as it did. -/
def retroAtsUptoRow : OpenClaim := { program := "ytkoeplbkeboklaa", sum := "8c937597f9ad00b0e0caf2d5e909e84aa88c5160fb54bdef35bef0936f6f24d9", func := "afterword/afterwordlaw14.RetroAts", spec := "retroAts", inPlace := ["slices.overlaps[afterword/api.RetroStep]"], unfollowed := true, recurses := true, apart := false, narrowed := true }
def RetroAtsUptoSaid : Prop := retroAtsUptoRow.holds Try.pinned (OpenSpec.upto retroAtsSpec)

/-- 'afterwordlaw14.RetroDiffs', WHERE WHAT IT READS IS OF BULK AT MOST 1048576: true; the input reads as it did. -/
def retroDiffsUptoRow : OpenClaim := { program := "ytkoeplbkeboklaa", sum := "8c937597f9ad00b0e0caf2d5e909e84aa88c5160fb54bdef35bef0936f6f24d9", func := "afterword/afterwordlaw14.RetroDiffs", spec := "retroDiffs", inPlace := ["slices.overlaps[afterword/api.RetroStep]"], unfollowed := true, recurses := true, apart := false, narrowed := true }
def RetroDiffsUptoSaid : Prop := retroDiffsUptoRow.holds Try.pinned (OpenSpec.upto retroDiffsSpec)

/-- 'afterwordlaw14.RetroKnown', WHERE WHAT IT READS IS OF BULK AT MOST 1048576: true; the input reads as it did. -/
def retroKnownUptoRow : OpenClaim := { program := "ytkoeplbkeboklaa", sum := "8c937597f9ad00b0e0caf2d5e909e84aa88c5160fb54bdef35bef0936f6f24d9", func := "afterword/afterwordlaw14.RetroKnown", spec := "retroKnown", inPlace := ["slices.overlaps[afterword/api.RetroStep]"], unfollowed := true, recurses := true, apart := false, narrowed := true }
def RetroKnownUptoSaid : Prop := retroKnownUptoRow.holds Try.pinned (OpenSpec.upto retroKnownSpec)

/-- 'afterwordlaw14.RetroOrder', WHERE WHAT IT READS IS OF BULK AT MOST 1048576: true; the input reads as it did. -/
def retroOrderUptoRow : OpenClaim := { program := "ytkoeplbkeboklaa", sum := "8c937597f9ad00b0e0caf2d5e909e84aa88c5160fb54bdef35bef0936f6f24d9", func := "afterword/afterwordlaw14.RetroOrder", spec := "retroOrder", inPlace := ["slices.overlaps[afterword/api.RetroStep]"], unfollowed := true, recurses := true, apart := false, narrowed := true }
def RetroOrderUptoSaid : Prop := retroOrderUptoRow.holds Try.pinned (OpenSpec.upto retroOrderSpec)

/-- 'afterwordlaw14.RetroSpans', WHERE WHAT IT READS IS OF BULK AT MOST 1048576: true; the input reads as it did. -/
def retroSpansUptoRow : OpenClaim := { program := "ytkoeplbkeboklaa", sum := "8c937597f9ad00b0e0caf2d5e909e84aa88c5160fb54bdef35bef0936f6f24d9", func := "afterword/afterwordlaw14.RetroSpans", spec := "retroSpans", inPlace := ["slices.overlaps[afterword/api.RetroStep]"], unfollowed := true, recurses := true, apart := false, narrowed := true }
def RetroSpansUptoSaid : Prop := retroSpansUptoRow.holds Try.pinned (OpenSpec.upto retroSpansSpec)

/-- 'afterwordlaw14.RetroSlimmed', WHERE WHAT IT READS IS OF BULK AT MOST 1048576: true; the input reads as it did. -/
def retroSlimmedUptoRow : OpenClaim := { program := "ytkoeplbkeboklaa", sum := "8c937597f9ad00b0e0caf2d5e909e84aa88c5160fb54bdef35bef0936f6f24d9", func := "afterword/afterwordlaw14.RetroSlimmed", spec := "retroSlimmed", inPlace := ["slices.overlaps[afterword/api.RetroStep]"], unfollowed := true, recurses := true, apart := false, narrowed := true }
def RetroSlimmedUptoSaid : Prop := retroSlimmedUptoRow.holds Try.pinned (OpenSpec.upto retroSlimmedSpec)

/-- 'afterwordlaw14.RetroOne', WHERE WHAT IT READS IS OF BULK AT MOST 1048576: true; the input reads as it did. -/
def retroOneUptoRow : OpenClaim := { program := "ytkoeplbkeboklaa", sum := "8c937597f9ad00b0e0caf2d5e909e84aa88c5160fb54bdef35bef0936f6f24d9", func := "afterword/afterwordlaw14.RetroOne", spec := "retroOne", inPlace := ["slices.overlaps[afterword/api.RetroStep]"], unfollowed := true, recurses := true, apart := false, narrowed := true }
def RetroOneUptoSaid : Prop := retroOneUptoRow.holds Try.pinned (OpenSpec.upto retroOneSpec)

end Rows
end Go.Proofs.Ytkoeplbkeboklaa
