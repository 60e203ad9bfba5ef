/-
  NARROWER THAN 'FOR EVERY INPUT', by the rows' own cells (each row's printed sentence says how): MatchAutos: loops · MatchMachine: loops · MatchPicked: loops · MatchAlls: loops · MatchParts: loops · MatchIdle: loops · MatchFirm: loops · MatchLives: loops · MatchLate: loops.
  DERIVED. THE GIVEN ROWS OF THIS SEAT. 11 by the template 'for every input the law returns true; each argument reads behind the call as it read before'; 0 by the template 'total and deterministic' (their statements: YtgiploddoffmjaaGreatTotals.lean).
  GIVEN WITH THE SEED: the statements are not yours to turn. If you find one false, say at which input.
  Laid BY PROGRAM, IN A SANDBOX (cutbox-rows.mjs): the forced cells as the released guide's own fill.sh prints them over the translation f58ce3bf4e144315… (all of the seat's roots in one cut). By AI agents, Wed Nov 11 2026. No macro, syntax, notation, axiom, sorry.
-/
import Derived.Test.YtgiploddoffmjaaGreatChecked
import GoSem.Claim
import GoSem.ClaimJoined
import GoSem.ClaimMapViews
import Derived.JoinedTies
import Derived.KernelRfl
namespace Go.Proofs.YtgiploddoffmjaaGreat
/- THE CELL 'sum', in the pinned program and in every row, IS THE sha256 OF THE DUMP (.gsa) THAT YtgiploddoffmjaaGreatProg.lean LOADS. Nothing in Lean hashes anything: it is a label: what it is worth is what the hold of that sum in a sandbox is worth. -/
noncomputable def Tryz.pinned : Pinned := { name := "ytgiploddoffmjaagreat", sum := "f58ce3bf4e144315a9da8c8f9cf4be18615c2e42f69e9e12c364ef28a3322d33", checked := Tryz.checked }
namespace Rows
def none {H : Type} : Left H := { results := [], args := [] }

/-- 'afterwordlaw27.MatchAutos': WHATEVER THE INPUT: true; the input reads as it did. -/
def matchAutosSpec : ChangeSpec := { name := "matchAutos", fn := fun _ => fun
  | [d1, d2] => { results := [.lit (.bool true)], args := [d1, d2] }
  | _ => none }
def matchAutosRow : OpenClaim := { program := "ytgiploddoffmjaagreat", sum := "f58ce3bf4e144315a9da8c8f9cf4be18615c2e42f69e9e12c364ef28a3322d33", func := "afterword/afterwordlaw27.MatchAutos", spec := "matchAutos", unfollowed := true, recurses := true, loops := true, plainKeys := false, apart := false }
def MatchAutosSaid : Prop := matchAutosRow.holds Tryz.pinned (OpenSpec.ofChange matchAutosSpec)

/-- ITS FALSE NEIGHBOUR: 'it returns false'. Refute it at one input. -/
def matchAutosWrong : ChangeSpec := { name := "matchAutos", fn := fun _ => fun
  | [d1, d2] => { results := [.lit (.bool false)], args := [d1, d2] }
  | _ => none }
def MatchAutosWrongFalsely : Prop := matchAutosRow.holds Tryz.pinned (OpenSpec.ofChange matchAutosWrong)

/-- 'afterwordlaw27.MatchRuns': WHATEVER THE INPUT: true; the input reads as it did. -/
def matchRunsSpec : ChangeSpec := { name := "matchRuns", fn := fun _ => fun
  | [d] => { results := [.lit (.bool true)], args := [d] }
  | _ => none }
def matchRunsRow : OpenClaim := { program := "ytgiploddoffmjaagreat", sum := "f58ce3bf4e144315a9da8c8f9cf4be18615c2e42f69e9e12c364ef28a3322d33", func := "afterword/afterwordlaw27.MatchRuns", spec := "matchRuns", unfollowed := true, recurses := true, plainKeys := false, apart := false }
def MatchRunsSaid : Prop := matchRunsRow.holds Tryz.pinned (OpenSpec.ofChange matchRunsSpec)

/-- ITS FALSE NEIGHBOUR: 'it returns false'. Refute it at one input. -/
def matchRunsWrong : ChangeSpec := { name := "matchRuns", fn := fun _ => fun
  | [d] => { results := [.lit (.bool false)], args := [d] }
  | _ => none }
def MatchRunsWrongFalsely : Prop := matchRunsRow.holds Tryz.pinned (OpenSpec.ofChange matchRunsWrong)

/-- 'afterwordlaw27.MatchMachine': WHATEVER THE INPUT: true; the input reads as it did. -/
def matchMachineSpec : ChangeSpec := { name := "matchMachine", fn := fun _ => fun
  | [d1, d2, d3, d4] => { results := [.lit (.bool true)], args := [d1, d2, d3, d4] }
  | _ => none }
def matchMachineRow : OpenClaim := { program := "ytgiploddoffmjaagreat", sum := "f58ce3bf4e144315a9da8c8f9cf4be18615c2e42f69e9e12c364ef28a3322d33", func := "afterword/afterwordlaw27.MatchMachine", spec := "matchMachine", unfollowed := true, recurses := true, loops := true, plainKeys := false, apart := false }
def MatchMachineSaid : Prop := matchMachineRow.holds Tryz.pinned (OpenSpec.ofChange matchMachineSpec)

/-- ITS FALSE NEIGHBOUR: 'it returns false'. Refute it at one input. -/
def matchMachineWrong : ChangeSpec := { name := "matchMachine", fn := fun _ => fun
  | [d1, d2, d3, d4] => { results := [.lit (.bool false)], args := [d1, d2, d3, d4] }
  | _ => none }
def MatchMachineWrongFalsely : Prop := matchMachineRow.holds Tryz.pinned (OpenSpec.ofChange matchMachineWrong)

/-- 'afterwordlaw27.MatchPicked': WHATEVER THE INPUT: true; the input reads as it did. -/
def matchPickedSpec : ChangeSpec := { name := "matchPicked", fn := fun _ => fun
  | [d1, d2, d3] => { results := [.lit (.bool true)], args := [d1, d2, d3] }
  | _ => none }
def matchPickedRow : OpenClaim := { program := "ytgiploddoffmjaagreat", sum := "f58ce3bf4e144315a9da8c8f9cf4be18615c2e42f69e9e12c364ef28a3322d33", func := "afterword/afterwordlaw27.MatchPicked", spec := "matchPicked", unfollowed := true, recurses := true, loops := true, plainKeys := false, apart := false }
def MatchPickedSaid : Prop := matchPickedRow.holds Tryz.pinned (OpenSpec.ofChange matchPickedSpec)

/-- ITS FALSE NEIGHBOUR: 'it returns false'. Refute it at one input. -/
def matchPickedWrong : ChangeSpec := { name := "matchPicked", fn := fun _ => fun
  | [d1, d2, d3] => { results := [.lit (.bool false)], args := [d1, d2, d3] }
  | _ => none }
def MatchPickedWrongFalsely : Prop := matchPickedRow.holds Tryz.pinned (OpenSpec.ofChange matchPickedWrong)

/-- 'afterwordlaw27.MatchAlls': WHATEVER THE INPUT: true; the input reads as it did. -/
def matchAllsSpec : ChangeSpec := { name := "matchAlls", fn := fun _ => fun
  | [d1, d2, d3, d4] => { results := [.lit (.bool true)], args := [d1, d2, d3, d4] }
  | _ => none }
def matchAllsRow : OpenClaim := { program := "ytgiploddoffmjaagreat", sum := "f58ce3bf4e144315a9da8c8f9cf4be18615c2e42f69e9e12c364ef28a3322d33", func := "afterword/afterwordlaw27.MatchAlls", spec := "matchAlls", unfollowed := true, recurses := true, loops := true, plainKeys := false, apart := false }
def MatchAllsSaid : Prop := matchAllsRow.holds Tryz.pinned (OpenSpec.ofChange matchAllsSpec)

/-- ITS FALSE NEIGHBOUR: 'it returns false'. Refute it at one input. -/
def matchAllsWrong : ChangeSpec := { name := "matchAlls", fn := fun _ => fun
  | [d1, d2, d3, d4] => { results := [.lit (.bool false)], args := [d1, d2, d3, d4] }
  | _ => none }
def MatchAllsWrongFalsely : Prop := matchAllsRow.holds Tryz.pinned (OpenSpec.ofChange matchAllsWrong)

/-- 'afterwordlaw27.MatchParts': WHATEVER THE INPUT: true; the input reads as it did. -/
def matchPartsSpec : ChangeSpec := { name := "matchParts", fn := fun _ => fun
  | [d1, d2, d3, d4, d5, d6, d7] => { results := [.lit (.bool true)], args := [d1, d2, d3, d4, d5, d6, d7] }
  | _ => none }
def matchPartsRow : OpenClaim := { program := "ytgiploddoffmjaagreat", sum := "f58ce3bf4e144315a9da8c8f9cf4be18615c2e42f69e9e12c364ef28a3322d33", func := "afterword/afterwordlaw27.MatchParts", spec := "matchParts", unfollowed := true, recurses := true, loops := true, plainKeys := false, apart := false }
def MatchPartsSaid : Prop := matchPartsRow.holds Tryz.pinned (OpenSpec.ofChange matchPartsSpec)

/-- ITS FALSE NEIGHBOUR: 'it returns false'. Refute it at one input. -/
def matchPartsWrong : ChangeSpec := { name := "matchParts", fn := fun _ => fun
  | [d1, d2, d3, d4, d5, d6, d7] => { results := [.lit (.bool false)], args := [d1, d2, d3, d4, d5, d6, d7] }
  | _ => none }
def MatchPartsWrongFalsely : Prop := matchPartsRow.holds Tryz.pinned (OpenSpec.ofChange matchPartsWrong)

/-- 'afterwordlaw27.MatchIdle': WHATEVER THE INPUT: true; the input reads as it did. -/
def matchIdleSpec : ChangeSpec := { name := "matchIdle", fn := fun _ => fun
  | [d1, d2, d3, d4] => { results := [.lit (.bool true)], args := [d1, d2, d3, d4] }
  | _ => none }
def matchIdleRow : OpenClaim := { program := "ytgiploddoffmjaagreat", sum := "f58ce3bf4e144315a9da8c8f9cf4be18615c2e42f69e9e12c364ef28a3322d33", func := "afterword/afterwordlaw27.MatchIdle", spec := "matchIdle", unfollowed := true, recurses := true, loops := true, plainKeys := false, apart := false }
def MatchIdleSaid : Prop := matchIdleRow.holds Tryz.pinned (OpenSpec.ofChange matchIdleSpec)

/-- ITS FALSE NEIGHBOUR: 'it returns false'. Refute it at one input. -/
def matchIdleWrong : ChangeSpec := { name := "matchIdle", fn := fun _ => fun
  | [d1, d2, d3, d4] => { results := [.lit (.bool false)], args := [d1, d2, d3, d4] }
  | _ => none }
def MatchIdleWrongFalsely : Prop := matchIdleRow.holds Tryz.pinned (OpenSpec.ofChange matchIdleWrong)

/-- 'afterwordlaw27.MatchFirm': WHATEVER THE INPUT: true; the input reads as it did. -/
def matchFirmSpec : ChangeSpec := { name := "matchFirm", fn := fun _ => fun
  | [d1, d2, d3, d4] => { results := [.lit (.bool true)], args := [d1, d2, d3, d4] }
  | _ => none }
def matchFirmRow : OpenClaim := { program := "ytgiploddoffmjaagreat", sum := "f58ce3bf4e144315a9da8c8f9cf4be18615c2e42f69e9e12c364ef28a3322d33", func := "afterword/afterwordlaw27.MatchFirm", spec := "matchFirm", unfollowed := true, recurses := true, loops := true, plainKeys := false, apart := false }
def MatchFirmSaid : Prop := matchFirmRow.holds Tryz.pinned (OpenSpec.ofChange matchFirmSpec)

/-- ITS FALSE NEIGHBOUR: 'it returns false'. Refute it at one input. -/
def matchFirmWrong : ChangeSpec := { name := "matchFirm", fn := fun _ => fun
  | [d1, d2, d3, d4] => { results := [.lit (.bool false)], args := [d1, d2, d3, d4] }
  | _ => none }
def MatchFirmWrongFalsely : Prop := matchFirmRow.holds Tryz.pinned (OpenSpec.ofChange matchFirmWrong)

/-- 'afterwordlaw27.MatchLives': WHATEVER THE INPUT: true; the input reads as it did. -/
def matchLivesSpec : ChangeSpec := { name := "matchLives", fn := fun _ => fun
  | [d1, d2, d3] => { results := [.lit (.bool true)], args := [d1, d2, d3] }
  | _ => none }
def matchLivesRow : OpenClaim := { program := "ytgiploddoffmjaagreat", sum := "f58ce3bf4e144315a9da8c8f9cf4be18615c2e42f69e9e12c364ef28a3322d33", func := "afterword/afterwordlaw27.MatchLives", spec := "matchLives", unfollowed := true, recurses := true, loops := true, plainKeys := false, apart := false }
def MatchLivesSaid : Prop := matchLivesRow.holds Tryz.pinned (OpenSpec.ofChange matchLivesSpec)

/-- ITS FALSE NEIGHBOUR: 'it returns false'. Refute it at one input. -/
def matchLivesWrong : ChangeSpec := { name := "matchLives", fn := fun _ => fun
  | [d1, d2, d3] => { results := [.lit (.bool false)], args := [d1, d2, d3] }
  | _ => none }
def MatchLivesWrongFalsely : Prop := matchLivesRow.holds Tryz.pinned (OpenSpec.ofChange matchLivesWrong)

/-- 'afterwordlaw27.MatchKnown': WHATEVER THE INPUT: true; the input reads as it did. -/
def matchKnownSpec : ChangeSpec := { name := "matchKnown", fn := fun _ => fun
  | [] => { results := [.lit (.bool true)], args := [] }
  | _ => none }
def matchKnownRow : OpenClaim := { program := "ytgiploddoffmjaagreat", sum := "f58ce3bf4e144315a9da8c8f9cf4be18615c2e42f69e9e12c364ef28a3322d33", func := "afterword/afterwordlaw27.MatchKnown", spec := "matchKnown", unfollowed := true, recurses := true, plainKeys := false, apart := false }
def MatchKnownSaid : Prop := matchKnownRow.holds Tryz.pinned (OpenSpec.ofChange matchKnownSpec)

/-- ITS FALSE NEIGHBOUR: 'it returns false'. Refute it at one input. -/
def matchKnownWrong : ChangeSpec := { name := "matchKnown", fn := fun _ => fun
  | [] => { results := [.lit (.bool false)], args := [] }
  | _ => none }
def MatchKnownWrongFalsely : Prop := matchKnownRow.holds Tryz.pinned (OpenSpec.ofChange matchKnownWrong)

/-- 'afterwordlaw27.MatchLate': WHATEVER THE INPUT: true; the input reads as it did. -/
def matchLateSpec : ChangeSpec := { name := "matchLate", fn := fun _ => fun
  | [d1, d2, d3, d4] => { results := [.lit (.bool true)], args := [d1, d2, d3, d4] }
  | _ => none }
def matchLateRow : OpenClaim := { program := "ytgiploddoffmjaagreat", sum := "f58ce3bf4e144315a9da8c8f9cf4be18615c2e42f69e9e12c364ef28a3322d33", func := "afterword/afterwordlaw27.MatchLate", spec := "matchLate", inPlace := ["slices.overlaps[afterword/api.News]"], unfollowed := true, recurses := true, loops := true, plainKeys := false, apart := false }
def MatchLateSaid : Prop := matchLateRow.holds Tryz.pinned (OpenSpec.ofChange matchLateSpec)

/-- ITS FALSE NEIGHBOUR: 'it returns false'. Refute it at one input. -/
def matchLateWrong : ChangeSpec := { name := "matchLate", fn := fun _ => fun
  | [d1, d2, d3, d4] => { results := [.lit (.bool false)], args := [d1, d2, d3, d4] }
  | _ => none }
def MatchLateWrongFalsely : Prop := matchLateRow.holds Tryz.pinned (OpenSpec.ofChange matchLateWrong)

/- THE SECOND FORM. 'bulk': how many values and letters a reading holds, each counted each time it is reached (what is shared counts as often as it is met; a slice's spare places count too). A statement '..UptoSaid' is the law's where the arguments, and the package variables that the reading takes, are together of bulk at most 1048576: NARROWER than '..Said'. Prove '..Said' where nothing that the law and all that it calls make is longer than what came in: it says more and counts as full. Else prove '..UptoSaid'. A law counts once. -/
mutual
def uptoBulk {H : Type} : DataW H → Nat
  | .lit (.string bytes) => bytes.length + 1
  | .lit _ => 1
  | .nil => 1
  | .ptr d => uptoBulk d + 1
  | .slice elems spare => uptoBulkAll elems + uptoBulkAll spare + 1
  | .agg parts => uptoBulkAll parts + 1
  | .iface _ d => uptoBulk d + 1
  | .map entries => uptoBulkEntries entries + 1
  | .held _ => 1
def uptoBulkAll {H : Type} : List (DataW H) → Nat
  | [] => 0
  | d :: r => uptoBulk d + uptoBulkAll r
def uptoBulkEntries {H : Type} : List (Lit × DataW H) → Nat
  | [] => 0
  | x :: r => uptoBulkEntry x + uptoBulkEntries r
def uptoBulkEntry {H : Type} : Lit × DataW H → Nat
  | (.string bytes, d) => bytes.length + uptoBulk d + 1
  | (_, d) => uptoBulk d + 1
 end
def uptoSmall : (H : Type) → List (DataW H) → Bool := fun _ ds => decide (uptoBulkAll ds ≤ 1048576)
def OpenSpec.upto (s : _root_.Go.ChangeSpec) : _root_.Go.OpenSpec := { _root_.Go.OpenSpec.ofChange s with cond := some uptoSmall }

/-- 'afterwordlaw27.MatchAutos', WHERE WHAT IT READS IS OF BULK AT MOST 1048576: true; the input reads as it did. -/
def matchAutosUptoRow : OpenClaim := { program := "ytgiploddoffmjaagreat", sum := "f58ce3bf4e144315a9da8c8f9cf4be18615c2e42f69e9e12c364ef28a3322d33", func := "afterword/afterwordlaw27.MatchAutos", spec := "matchAutos", unfollowed := true, recurses := true, loops := true, plainKeys := false, apart := false, narrowed := true }
def MatchAutosUptoSaid : Prop := matchAutosUptoRow.holds Tryz.pinned (OpenSpec.upto matchAutosSpec)

/-- 'afterwordlaw27.MatchRuns', WHERE WHAT IT READS IS OF BULK AT MOST 1048576: true; the input reads as it did. -/
def matchRunsUptoRow : OpenClaim := { program := "ytgiploddoffmjaagreat", sum := "f58ce3bf4e144315a9da8c8f9cf4be18615c2e42f69e9e12c364ef28a3322d33", func := "afterword/afterwordlaw27.MatchRuns", spec := "matchRuns", unfollowed := true, recurses := true, plainKeys := false, apart := false, narrowed := true }
def MatchRunsUptoSaid : Prop := matchRunsUptoRow.holds Tryz.pinned (OpenSpec.upto matchRunsSpec)

/-- 'afterwordlaw27.MatchMachine', WHERE WHAT IT READS IS OF BULK AT MOST 1048576: true; the input reads as it did. -/
def matchMachineUptoRow : OpenClaim := { program := "ytgiploddoffmjaagreat", sum := "f58ce3bf4e144315a9da8c8f9cf4be18615c2e42f69e9e12c364ef28a3322d33", func := "afterword/afterwordlaw27.MatchMachine", spec := "matchMachine", unfollowed := true, recurses := true, loops := true, plainKeys := false, apart := false, narrowed := true }
def MatchMachineUptoSaid : Prop := matchMachineUptoRow.holds Tryz.pinned (OpenSpec.upto matchMachineSpec)

/-- 'afterwordlaw27.MatchPicked', WHERE WHAT IT READS IS OF BULK AT MOST 1048576: true; the input reads as it did. -/
def matchPickedUptoRow : OpenClaim := { program := "ytgiploddoffmjaagreat", sum := "f58ce3bf4e144315a9da8c8f9cf4be18615c2e42f69e9e12c364ef28a3322d33", func := "afterword/afterwordlaw27.MatchPicked", spec := "matchPicked", unfollowed := true, recurses := true, loops := true, plainKeys := false, apart := false, narrowed := true }
def MatchPickedUptoSaid : Prop := matchPickedUptoRow.holds Tryz.pinned (OpenSpec.upto matchPickedSpec)

/-- 'afterwordlaw27.MatchAlls', WHERE WHAT IT READS IS OF BULK AT MOST 1048576: true; the input reads as it did. -/
def matchAllsUptoRow : OpenClaim := { program := "ytgiploddoffmjaagreat", sum := "f58ce3bf4e144315a9da8c8f9cf4be18615c2e42f69e9e12c364ef28a3322d33", func := "afterword/afterwordlaw27.MatchAlls", spec := "matchAlls", unfollowed := true, recurses := true, loops := true, plainKeys := false, apart := false, narrowed := true }
def MatchAllsUptoSaid : Prop := matchAllsUptoRow.holds Tryz.pinned (OpenSpec.upto matchAllsSpec)

/-- 'afterwordlaw27.MatchParts', WHERE WHAT IT READS IS OF BULK AT MOST 1048576: true; the input reads as it did. -/
def matchPartsUptoRow : OpenClaim := { program := "ytgiploddoffmjaagreat", sum := "f58ce3bf4e144315a9da8c8f9cf4be18615c2e42f69e9e12c364ef28a3322d33", func := "afterword/afterwordlaw27.MatchParts", spec := "matchParts", unfollowed := true, recurses := true, loops := true, plainKeys := false, apart := false, narrowed := true }
def MatchPartsUptoSaid : Prop := matchPartsUptoRow.holds Tryz.pinned (OpenSpec.upto matchPartsSpec)

/-- 'afterwordlaw27.MatchIdle', WHERE WHAT IT READS IS OF BULK AT MOST 1048576: true; the input reads as it did. -/
def matchIdleUptoRow : OpenClaim := { program := "ytgiploddoffmjaagreat", sum := "f58ce3bf4e144315a9da8c8f9cf4be18615c2e42f69e9e12c364ef28a3322d33", func := "afterword/afterwordlaw27.MatchIdle", spec := "matchIdle", unfollowed := true, recurses := true, loops := true, plainKeys := false, apart := false, narrowed := true }
def MatchIdleUptoSaid : Prop := matchIdleUptoRow.holds Tryz.pinned (OpenSpec.upto matchIdleSpec)

/-- 'afterwordlaw27.MatchFirm', WHERE WHAT IT READS IS OF BULK AT MOST 1048576: true; the input reads as it did. -/
def matchFirmUptoRow : OpenClaim := { program := "ytgiploddoffmjaagreat", sum := "f58ce3bf4e144315a9da8c8f9cf4be18615c2e42f69e9e12c364ef28a3322d33", func := "afterword/afterwordlaw27.MatchFirm", spec := "matchFirm", unfollowed := true, recurses := true, loops := true, plainKeys := false, apart := false, narrowed := true }
def MatchFirmUptoSaid : Prop := matchFirmUptoRow.holds Tryz.pinned (OpenSpec.upto matchFirmSpec)

/-- 'afterwordlaw27.MatchLives', WHERE WHAT IT READS IS OF BULK AT MOST 1048576: true; the input reads as it did. -/
def matchLivesUptoRow : OpenClaim := { program := "ytgiploddoffmjaagreat", sum := "f58ce3bf4e144315a9da8c8f9cf4be18615c2e42f69e9e12c364ef28a3322d33", func := "afterword/afterwordlaw27.MatchLives", spec := "matchLives", unfollowed := true, recurses := true, loops := true, plainKeys := false, apart := false, narrowed := true }
def MatchLivesUptoSaid : Prop := matchLivesUptoRow.holds Tryz.pinned (OpenSpec.upto matchLivesSpec)

/-- 'afterwordlaw27.MatchKnown', WHERE WHAT IT READS IS OF BULK AT MOST 1048576: true; the input reads as it did. -/
def matchKnownUptoRow : OpenClaim := { program := "ytgiploddoffmjaagreat", sum := "f58ce3bf4e144315a9da8c8f9cf4be18615c2e42f69e9e12c364ef28a3322d33", func := "afterword/afterwordlaw27.MatchKnown", spec := "matchKnown", unfollowed := true, recurses := true, plainKeys := false, apart := false, narrowed := true }
def MatchKnownUptoSaid : Prop := matchKnownUptoRow.holds Tryz.pinned (OpenSpec.upto matchKnownSpec)

/-- 'afterwordlaw27.MatchLate', WHERE WHAT IT READS IS OF BULK AT MOST 1048576: true; the input reads as it did. -/
def matchLateUptoRow : OpenClaim := { program := "ytgiploddoffmjaagreat", sum := "f58ce3bf4e144315a9da8c8f9cf4be18615c2e42f69e9e12c364ef28a3322d33", func := "afterword/afterwordlaw27.MatchLate", spec := "matchLate", inPlace := ["slices.overlaps[afterword/api.News]"], unfollowed := true, recurses := true, loops := true, plainKeys := false, apart := false, narrowed := true }
def MatchLateUptoSaid : Prop := matchLateUptoRow.holds Tryz.pinned (OpenSpec.upto matchLateSpec)

end Rows
end Go.Proofs.YtgiploddoffmjaaGreat
