/- My texts, joined: V2. -/
import Derived.Below
import Derived.BigQuiet
import Derived.ChangeKeysEq
import Derived.Deep.AppendLies
import Derived.Deep.CutBlock
import Derived.Deep.DeepCutAuto
import Derived.Deep.LoopGhost
import Derived.Deep.QuietTactic
import Derived.Deep.RegionHeld
import Derived.Deep.RegionHeld3
import Derived.Deep.RegionLaw
import Derived.Defers
import Derived.Ground.Names2Prog
import Derived.Ground.Names8Prog
import Derived.Ground.SlsfProg
import Derived.Handy
import Derived.KernelRfl
import Derived.Laws.AppendOwn
import Derived.Laws.AppendOwnNone
import Derived.Laws.CopyRow
import Derived.Laws.Pointers
import Derived.Laws.StructEq
import Derived.Lib.Hide
import Derived.Lib.Overlaps
import Derived.LoopIn
import Derived.LoopN
import Derived.LoopNIn
import Derived.LoopTactic
import Derived.MapKept
import Derived.Maps.AppendAt
import Derived.Maps.OwnOps
import Derived.Maps.RangeRun
import Derived.Maps.RangeWalk
import Derived.Outline
import Derived.OwnWalk
import Derived.OwnWalkIn
import Derived.RangeFuncBound
import Derived.RangeFuncCalls
import Derived.RangeFuncLeaves
import Derived.RangeFuncNested
import Derived.Recover
import Derived.Shelf.Abstract
import Derived.Shelf.RegionOpen
import Derived.Shelf.SlGeneric
import Derived.Shelf.SlLaysF0
import Derived.Shelf.SlSortCmp.HeapSort1
import Derived.Shelf.SlSortCmp.Insertion
import Derived.Shelf.SlSortCmp.Insertion1
import Derived.Shelf.SlSortCmp.Median1
import Derived.Shelf.SlSortCmp.NoneTotal
import Derived.Shelf.SlSortCmp.PartialInsertion1
import Derived.Shelf.SlSortCmp.Partition1
import Derived.Shelf.SlSortCmp.PartitionEqual1
import Derived.Shelf.SlSortCmp.Pdq1
import Derived.Shelf.SlSortCmp.Pivot1
import Derived.Shelf.SlSortCmp.ReverseRange1
import Derived.Shelf.SlSortCmp.SiftDown1
import Derived.Shelf.SlSortCmp.Whole1
import Derived.Shelf.SlSortCmp.WholeK
import Derived.Shelf.Slices.In.SortNone
import Derived.Shelf.Small.Bits
import Derived.Shelf.Sort.Plain
import Derived.Shelf.Spec.SlicesGrow
import Derived.TacticsInMore
import Derived.Test.YtgiploddoffmjaaGreatProg
import Derived.WalkKit
import Derived.WalkLawsBesides
import Derived.WalkSpells
import Derived.Test.YtgiploddoffmjaaGreatM0
import Derived.Test.YtgiploddoffmjaaGreatM1
import Derived.Test.YtgiploddoffmjaaGreatM2
import Derived.Test.YtgiploddoffmjaaGreatM3
import Derived.Test.YtgiploddoffmjaaGreatM4
import Derived.Test.YtgiploddoffmjaaGreatM5
import Derived.Test.YtgiploddoffmjaaGreatM6
import Derived.Test.YtgiploddoffmjaaGreatM7
import Derived.Test.YtgiploddoffmjaaGreatM8
import Derived.Test.YtgiploddoffmjaaGreatM9
import Derived.Test.YtgiploddoffmjaaGreatM10
import Derived.Test.YtgiploddoffmjaaGreatM11
import Derived.Test.YtgiploddoffmjaaGreatM12
import Derived.Test.YtgiploddoffmjaaGreatM13
import Derived.Test.YtgiploddoffmjaaGreatM14
import Derived.Test.YtgiploddoffmjaaGreatM15
import Derived.Test.YtgiploddoffmjaaGreatM16
import Derived.Test.YtgiploddoffmjaaGreatM17
import Derived.Test.YtgiploddoffmjaaGreatM18
import Derived.Test.YtgiploddoffmjaaGreatM19
import Derived.Test.YtgiploddoffmjaaGreatM20
import Derived.Test.YtgiploddoffmjaaGreatM21
import Derived.Test.YtgiploddoffmjaaGreatM22
import Derived.Test.YtgiploddoffmjaaGreatM23
import Derived.Test.YtgiploddoffmjaaGreatM24
import Derived.Test.YtgiploddoffmjaaGreatM25
import Derived.Test.YtgiploddoffmjaaGreatM26
import Derived.Test.YtgiploddoffmjaaGreatM27
import Derived.Test.YtgiploddoffmjaaGreatXMatchMachine1
import Derived.Test.YtgiploddoffmjaaGreatXMatchMachine2
import Derived.Test.YtgiploddoffmjaaGreatXMatchMachine3
import Derived.Test.YtgiploddoffmjaaGreatXMatchMachine4
import Derived.Test.YtgiploddoffmjaaGreatXMatchMachine5
import Derived.Test.YtgiploddoffmjaaGreatXMatchMachine6
import Derived.Test.YtgiploddoffmjaaGreatXMatchMachine7
import Derived.Test.YtgiploddoffmjaaGreatXMatchMachine8
set_option linter.unusedVariables false
set_option linter.unusedSimpArgs false
set_option linter.unusedSectionVars false
set_option maxRecDepth 10000
namespace Go.Proofs.YtgiploddoffmjaaGreat
section
open Go.RowKit Go.Shelf
theorem incI_row {l : List Ev} {m : List (List Int)} (hs : sortedO ordL m) (hi : ∀ x ∈ m, incI l x) : Sorted m l.length where
 row x hx := hi x hx
 ord i x y hx hy := by
  obtain ⟨h1, e1⟩ := List.getElem?_eq_some_iff.1 hx
  obtain ⟨h2, e2⟩ := List.getElem?_eq_some_iff.1 hy
  rw [← e1, ← e2]
  exact List.pairwise_iff_getElem.1 hs i (i + 1) h1 h2 (Nat.lt_succ_self i)
theorem autoP_len {srcs near : Int} {x : Node} (hq : queryP srcs x near = true) : (autoP x).follow.length ≤ 200000 := by
 have hp := (query_parts hq).2.1
 have h3 := shape_small hp
 have h4 := makeP_follow (formOf x) 0 h3
 show (setO edgeOrd (makeP (formOf x) 0).follow).length ≤ 200000
 have h6 : (setO edgeOrd (makeP (formOf x) 0).follow).length ≤ ([] : List Edge).length + (makeP (formOf x) 0).follow.length := foldl_len (o := edgeOrd) _ _
 simp at h6
 omega
theorem OwnRowsR.ll {w w' : World} {v : Value} {m : List (List Int)} (h : OwnRowsR w w' v m) : ∃ gs, nums gs = m ∧ LL w' 0 v gs := by
 obtain ⟨a, gs, rfl, hn, hl⟩ := h
 exact ⟨gs, hn, hl.mono (Nat.zero_le _)⟩
theorem OwnRows.ll {w w' : World} {v : Value} {m : List (List Int)} (h : OwnRows w w' v m) : ∃ gs, nums gs = m ∧ LL w' 0 v gs := by
 obtain ⟨a, gs, rfl, hn, hl, _⟩ := h
 exact ⟨gs, hn, hl.mono (Nat.zero_le _)⟩
theorem OwnRows.form {w w' : World} {v : Value} {m : List (List Int)} (h : OwnRows w w' v m) : ∃ a, v = .slice a m.length m.length := by
 obtain ⟨a, gs, rfl, hn, hl, _⟩ := h
 exact ⟨a, by rw [← hn, nums_len]⟩
theorem OwnRowsR.form {w w' : World} {v : Value} {m : List (List Int)} (h : OwnRowsR w w' v m) : ∃ a, v = .slice a m.length m.length := by
 obtain ⟨a, gs, rfl, hn, hl⟩ := h
 exact ⟨a, by rw [← hn, nums_len]⟩
set_option maxRecDepth 100000 in
set_option maxHeartbeats 16000000 in
theorem machine_bad (x : Node) (v : Value) (near : Int) (same : Bool) (srcs : Int) (l : List Ev) (al : Option Addr) (cl : Nat) (hcl : l.length ≤ cl) (m : List Int) (am : Option Addr) (cm : Nat) (hfm : fitL m) (w : World) (hk : RdK w x.ks v) (hr : Rd Ev.cells 5 w (.slice al l.length cl) l) (hm : Rd intC 1 w (.slice am m.length cm) m)
 (hok : (queryP srcs x near && eventsP srcs l) = false) :
 Calls Tryz.prog 5 #[.agg (queryA x v near same), .int .i64 srcs, .slice al l.length cl, .slice am m.length cm] w fun e w' => e = .returned (.bool true) ∧ Below w.heap.size w w' := by
 obtain ⟨a0, c0, rfl⟩ : ∃ a c, v = .slice a x.ks.len c := by obtain ⟨a, c, e, _⟩ := hk; exact ⟨a, c, e⟩
 have hA := fun W (h : Below w.heap.size w W) => all_out l al cl hcl x _ near same srcs W (hr.below h) (hk.below h)
 have hU := fun W (h : Below w.heap.size w W) => auto_out x _ near same srcs W (hk.below h)
 have hall : allRes srcs l x near same = ([], 2) := by unfold allRes; rw [hok]; rfl
 rw [hall] at hA
 have HA := zH hA
 have HU := zH hU
 clear hA hU hall hok hk hr hm hfm
 have HB := zH (Below.refl w.heap.size w)
 go_enter Tryz.func5, Tryz.ntmps5
 go_wp2_with fail
 refine zX (G := fun W => Calls _ _ _ W _) w _ _ fun w1 hb hz hx => ?_
 have q0 := zC hx 0
 have q1 := zC hx 1
 have q2 := zC hx 2
 have q3 := zC hx 3
 have q4 := zC hx 4
 have q5 := zC hx 5
 have q6 := zC hx 6
 have q7 := zC hx 7
 clear hx hz
 replace HB := zH (HB.out.trans (hb.mono HB.out.size))
 clear hb
 refine (HA.out _ HB.out).mono ?_
 rintro e w2 ⟨va, rfl, hall, hb⟩
 replace q0 := zB hb q0
 replace q1 := zB hb q1
 replace q2 := zB hb q2
 replace q3 := zB hb q3
 replace q4 := zB hb q4
 replace q5 := zB hb q5
 replace q6 := zB hb q6
 replace q7 := zB hb q7
 replace HB := zH (HB.out.trans (hb.mono HB.out.size))
 clear hb
 obtain ⟨aa, rfl⟩ := hall.form
 clear hall
 go_wp2_with fail
 refine (HU.out _ HB.out).mono ?_
 rintro e w3 ⟨v1, v2, v3, v4, rfl, hau, hb⟩
 replace q0 := zB hb q0
 replace q1 := zB hb q1
 replace q2 := zB hb q2
 replace q3 := zB hb q3
 replace q4 := zB hb q4
 replace q5 := zB hb q5
 replace q6 := zB hb q6
 replace q7 := zB hb q7
 replace HB := zH (HB.out.trans (hb.mono HB.out.size))
 clear hb
 obtain ⟨a1, k1, rfl⟩ : ∃ a c, v1 = .slice a (if queryP srcs x near then autoP x else ⟨[], [], [], []⟩ : Auto).tests.length c := by obtain ⟨_, a, c, rfl, _⟩ := hau.tests; exact ⟨a, c, rfl⟩
 obtain ⟨a2, k2, rfl⟩ : ∃ a c, v2 = .slice a (if queryP srcs x near then autoP x else ⟨[], [], [], []⟩ : Auto).first.length c := by obtain ⟨_, a, c, rfl, _⟩ := hau.first; exact ⟨a, c, rfl⟩
 obtain ⟨a3, k3, rfl⟩ : ∃ a c, v3 = .slice a (if queryP srcs x near then autoP x else ⟨[], [], [], []⟩ : Auto).last.length c := by obtain ⟨_, a, c, rfl, _⟩ := hau.last; exact ⟨a, c, rfl⟩
 obtain ⟨a4, k4, rfl⟩ : ∃ a c, v4 = .slice a (if queryP srcs x near then autoP x else ⟨[], [], [], []⟩ : Auto).follow.length c := by obtain ⟨_, a, c, rfl, _⟩ := hau.follow; exact ⟨a, c, rfl⟩
 clear hau
 generalize (if queryP srcs x near then autoP x else ⟨[], [], [], []⟩ : Auto) = au
 generalize (if queryP srcs x near then (0 : Int) else 2) = r
 go_upto_region 3 with (fail)
 refine zX (G := fun W => Code.wp _ _ _ _ W) w3 _ _ fun w4 hb hz hx => ?_
 have d0 := zC hx 0
 have d1 := zC hx 1
 have d2 := zC hx 2
 have d3 := zC hx 3
 clear hx hz
 replace q0 := zB hb q0
 replace q1 := zB hb q1
 replace q2 := zB hb q2
 replace q3 := zB hb q3
 replace q4 := zB hb q4
 replace q5 := zB hb q5
 replace q6 := zB hb q6
 replace q7 := zB hb q7
 replace HB := zH (HB.out.trans (hb.mono HB.out.size))
 clear hb
 clear q0
 clear q1
 clear q2
 clear q3
 clear q4
 clear q5
 clear q6
 clear q7
 clear d0
 clear d1
 clear d2
 clear d3
 go_wp2_with fail
 refine (known_law _).mono ?_
 rintro e w5 ⟨rfl, hb⟩
 replace HB := zH (HB.out.trans (hb.mono HB.out.size))
 clear hb
 go_wp2
 go_ret
 exact ⟨rfl, HB.out⟩
set_option maxRecDepth 100000 in
set_option maxHeartbeats 16000000 in
theorem machine_okok (x : Node) (v : Value) (near : Int) (same : Bool) (srcs : Int) (l : List Ev) (al : Option Addr) (cl : Nat) (hcl : l.length ≤ cl) (m : List Int) (am : Option Addr) (cm : Nat) (hfm : fitL m) (w : World) (hk : RdK w x.ks v) (hr : Rd Ev.cells 5 w (.slice al l.length cl) l) (hm : Rd intC 1 w (.slice am m.length cm) m)
 (hq : queryP srcs x near = true) (he : eventsP srcs l = true) (ma : List (List Int)) (ha : matchP l (formOf x) near same = some ma) (mo : List (List Int)) (ho : runP (autoP x) near same l = some mo) :
 Calls Tryz.prog 5 #[.agg (queryA x v near same), .int .i64 srcs, .slice al l.length cl, .slice am m.length cm] w fun e w' => e = .returned (.bool true) ∧ Below w.heap.size w w' := by
 obtain ⟨a0, c0, rfl⟩ : ∃ a c, v = .slice a x.ks.len c := by obtain ⟨a, c, e, _⟩ := hk; exact ⟨a, c, e⟩
 have hA := fun W (h : Below w.heap.size w W) => all_out l al cl hcl x _ near same srcs W (hr.below h) (hk.below h)
 have hU := fun W (h : Below w.heap.size w W) => auto_out x _ near same srcs W (hk.below h)
 have hall : allRes srcs l x near same = (ma, 0) := by unfold allRes; rw [hq, he, ha]; rfl
 have hrun : runRes srcs (autoP x) near same l = (mo, 0) := by unfold runRes runOk; rw [autoP_good hq, he, (query_parts hq).2.2, ho, show inP srcs 1 4 = true by unfold queryP at hq; simp only [Bool.and_eq_true] at hq; exact hq.1.1]; rfl
 rw [hall] at hA
 rw [hq, if_pos rfl, if_pos rfl] at hU
 have hI := fun W (h : Below w.heap.size w W) => is_out l al cl hcl m am cm x _ near same srcs W (hr.below h) (hm.below h) (hk.below h)
 have hi := is_spec (x := x) (near := near) (same := same) hq he m
 rw [hi.1] at hI
 obtain ⟨ib, hib⟩ : ∃ b, b = (isRes srcs l x near same m).1 := ⟨_, rfl⟩
 rw [← hib] at hI
 have hS := fun W (h : Below w.heap.size w W) => refAsked_any x _ near same srcs l _ W (hk.below h) (hr.below h)
 rw [hq, he] at hS
 have h60 := (events_small he).1
 have HM := zH hm
 have HL := zH hr
 have HF := zH hfm
 have ro := run_spec hq he ho
 have SO := zH (incI_row ro.1 fun z hz => lang_inc ((ro.2 z).1 hz).1)
 have eo : decide (m ∈ mo) = ib := by
  rw [hib, Bool.eq_iff_iff, decide_eq_true_iff, ro.2, hi.2]
 have EO := zH eo
 have ra := match_spec he ha
 have SA := zH (incI_row ra.1 fun z hz => lang_inc ((ra.2 z).1 hz).1)
 have ea : decide (m ∈ ma) = ib := by
  rw [hib, Bool.eq_iff_iff, decide_eq_true_iff, ra.2, hi.2]
 have EA := zH ea
 have HEQ := zH (show ma = mo from sorted_ext ordL_laws ra.1 ro.1 fun z => (ra.2 z).trans (ro.2 z).symm)
 have HA := zH hA
 have HU := zH hU
 have HI := zH hI
 have HS := zH hS
 have HQ := zH (zA hq he)
 have HR := zH hrun
 have n60 := h60
 clear hA hU hI hS hq he ha ho hrun hall hi hib hk hr hm hfm h60 ro eo ra ea
 have HB := zH (Below.refl w.heap.size w)
 go_enter Tryz.func5, Tryz.ntmps5
 go_wp2_with fail
 refine zX (G := fun W => Calls _ _ _ W _) w _ _ fun w1 hb hz hx => ?_
 have q0 := zC hx 0
 have q1 := zC hx 1
 have q2 := zC hx 2
 have q3 := zC hx 3
 have q4 := zC hx 4
 have q5 := zC hx 5
 have q6 := zC hx 6
 have q7 := zC hx 7
 clear hx hz
 replace HM := zH (HM.out.below hb)
 replace HL := zH (HL.out.below hb)
 replace HB := zH (HB.out.trans (hb.mono HB.out.size))
 clear hb
 refine (HA.out _ HB.out).mono ?_
 rintro e w2 ⟨va, rfl, hall, hb⟩
 replace HM := zH (HM.out.below hb)
 replace HL := zH (HL.out.below hb)
 replace q0 := zB hb q0
 replace q1 := zB hb q1
 replace q2 := zB hb q2
 replace q3 := zB hb q3
 replace q4 := zB hb q4
 replace q5 := zB hb q5
 replace q6 := zB hb q6
 replace q7 := zB hb q7
 replace HB := zH (HB.out.trans (hb.mono HB.out.size))
 clear hb
 obtain ⟨aa, rfl⟩ := hall.form
 obtain ⟨ga, hga, hla⟩ := hall.ll
 have HRA := zH hall.rdLL
 have HGA := zH hga
 clear hga
 have HLA := zH hla
 clear hla
 clear hall
 go_wp2_with fail
 refine (HU.out _ HB.out).mono ?_
 rintro e w3 ⟨v1, v2, v3, v4, rfl, hau, hb⟩
 replace HM := zH (HM.out.below hb)
 replace HL := zH (HL.out.below hb)
 replace HRA := zH (HRA.out.below hb)
 replace HLA := zH (HLA.out.below hb)
 replace q0 := zB hb q0
 replace q1 := zB hb q1
 replace q2 := zB hb q2
 replace q3 := zB hb q3
 replace q4 := zB hb q4
 replace q5 := zB hb q5
 replace q6 := zB hb q6
 replace q7 := zB hb q7
 replace HB := zH (HB.out.trans (hb.mono HB.out.size))
 clear hb
 obtain ⟨a1, k1, rfl⟩ : ∃ a c, v1 = .slice a (autoP x).tests.length c := by obtain ⟨_, a, c, rfl, _⟩ := hau.tests; exact ⟨a, c, rfl⟩
 obtain ⟨a2, k2, rfl⟩ : ∃ a c, v2 = .slice a (autoP x).first.length c := by obtain ⟨_, a, c, rfl, _⟩ := hau.first; exact ⟨a, c, rfl⟩
 obtain ⟨a3, k3, rfl⟩ : ∃ a c, v3 = .slice a (autoP x).last.length c := by obtain ⟨_, a, c, rfl, _⟩ := hau.last; exact ⟨a, c, rfl⟩
 obtain ⟨a4, k4, rfl⟩ : ∃ a c, v4 = .slice a (autoP x).follow.length c := by obtain ⟨_, a, c, rfl, _⟩ := hau.follow; exact ⟨a, c, rfl⟩
 have HAU := zH hau
 clear hau
 go_upto_region 3 with (fail)
 refine zX (G := fun W => Code.wp _ _ _ _ W) w3 _ _ fun w4 hb hz hx => ?_
 have d0 := zC hx 0
 have d1 := zC hx 1
 have d2 := zC hx 2
 have d3 := zC hx 3
 clear hx hz
 replace HM := zH (HM.out.below hb)
 replace HL := zH (HL.out.below hb)
 replace HRA := zH (HRA.out.below hb)
 replace HLA := zH (HLA.out.below hb)
 replace HAU := zH (HAU.out.below hb)
 replace q0 := zB hb q0
 replace q1 := zB hb q1
 replace q2 := zB hb q2
 replace q3 := zB hb q3
 replace q4 := zB hb q4
 replace q5 := zB hb q5
 replace q6 := zB hb q6
 replace q7 := zB hb q7
 replace HB := zH (HB.out.trans (hb.mono HB.out.size))
 clear hb
 go_wp2_with fail
 refine (HS.out _ HB.out).mono ?_
 rintro e w5 ⟨rfl, hb⟩
 replace HM := zH (HM.out.below hb)
 replace HL := zH (HL.out.below hb)
 replace HRA := zH (HRA.out.below hb)
 replace HLA := zH (HLA.out.below hb)
 replace HAU := zH (HAU.out.below hb)
 replace q0 := zB hb q0
 replace q1 := zB hb q1
 replace q2 := zB hb q2
 replace q3 := zB hb q3
 replace q4 := zB hb q4
 replace q5 := zB hb q5
 replace q6 := zB hb q6
 replace q7 := zB hb q7
 replace d0 := zB hb d0
 replace d1 := zB hb d1
 replace d2 := zB hb d2
 replace d3 := zB hb d3
 replace HB := zH (HB.out.trans (hb.mono HB.out.size))
 clear hb
 go_wp2_with fail
 have hfo := refFormed_any _ _ _ _ (autoP x) srcs _ HAU.out
 rw [autoP_good HQ.out.1, show inP srcs 1 4 = true by have := HQ.out.1; unfold queryP at this; simp only [Bool.and_eq_true] at this; exact this.1.1] at hfo
 refine (hfo).mono ?_
 rintro e w6 ⟨rfl, hb⟩
 replace HM := zH (HM.out.below hb)
 replace HL := zH (HL.out.below hb)
 replace HRA := zH (HRA.out.below hb)
 replace HLA := zH (HLA.out.below hb)
 replace HAU := zH (HAU.out.below hb)
 replace q0 := zB hb q0
 replace q1 := zB hb q1
 replace q2 := zB hb q2
 replace q3 := zB hb q3
 replace q4 := zB hb q4
 replace q5 := zB hb q5
 replace q6 := zB hb q6
 replace q7 := zB hb q7
 replace d0 := zB hb d0
 replace d1 := zB hb d1
 replace d2 := zB hb d2
 replace d3 := zB hb d3
 replace HB := zH (HB.out.trans (hb.mono HB.out.size))
 clear hb
 clear hfo
 go_wp2_with fail
 have hrn := run_out _ _ _ _ (autoP x) near same srcs l al cl _ HAU.out HL.out (by assumption) (autoP_len HQ.out.1)
 rw [HR.out] at hrn
 refine (hrn).mono ?_
 rintro e w7 ⟨vo, rfl, hown, hb⟩
 replace HM := zH (HM.out.below hb)
 replace HL := zH (HL.out.below hb)
 replace HRA := zH (HRA.out.below hb)
 replace HLA := zH (HLA.out.below hb)
 replace HAU := zH (HAU.out.below hb)
 replace q0 := zB hb q0
 replace q1 := zB hb q1
 replace q2 := zB hb q2
 replace q3 := zB hb q3
 replace q4 := zB hb q4
 replace q5 := zB hb q5
 replace q6 := zB hb q6
 replace q7 := zB hb q7
 replace d0 := zB hb d0
 replace d1 := zB hb d1
 replace d2 := zB hb d2
 replace d3 := zB hb d3
 replace HB := zH (HB.out.trans (hb.mono HB.out.size))
 clear hb
 clear hrn
 obtain ⟨ao, rfl⟩ := hown.form
 obtain ⟨go, hgo, hlo⟩ := hown.ll
 have HRO := zH hown.rdLL
 have HGO := zH hgo
 clear hgo
 have HLO := zH hlo
 clear hlo
 clear hown
 clear HAU
 clear d0
 clear d1
 clear d2
 clear d3
 go_wp2_with fail
 refine (HI.out _ HB.out).mono ?_
 rintro e w8 ⟨rfl, hb⟩
 replace HM := zH (HM.out.below hb)
 replace HL := zH (HL.out.below hb)
 replace HRA := zH (HRA.out.below hb)
 replace HLA := zH (HLA.out.below hb)
 replace HRO := zH (HRO.out.below hb)
 replace HLO := zH (HLO.out.below hb)
 replace q0 := zB hb q0
 replace q1 := zB hb q1
 replace q2 := zB hb q2
 replace q3 := zB hb q3
 replace q4 := zB hb q4
 replace q5 := zB hb q5
 replace q6 := zB hb q6
 replace q7 := zB hb q7
 replace HB := zH (HB.out.trans (hb.mono HB.out.size))
 clear hb
 clear HL
 clear q0
 clear q1
 clear q2
 clear q3
 clear q4
 clear q5
 clear q6
 clear q7
 go_wp2_with fail
 refine (sorted_good _ mo l.length (by omega) _ HRO.out SO.out).mono ?_
 rintro e w9 ⟨rfl, hb⟩
 replace HM := zH (HM.out.below hb)
 replace HRA := zH (HRA.out.below hb)
 replace HLA := zH (HLA.out.below hb)
 replace HRO := zH (HRO.out.below hb)
 replace HLO := zH (HLO.out.below hb)
 replace HB := zH (HB.out.trans (hb.mono HB.out.size))
 clear hb
 go_wp2_with fail
 have hfd := find_any _ _ mo go m 0 _ HLO.out HGO.out HM.out (fun z hz => (SO.out.small (by omega) z hz).fit) HF.out
 rw [EO.out] at hfd
 refine (hfd).mono ?_
 rintro e w10 ⟨rfl, hb⟩
 replace HM := zH (HM.out.below hb)
 replace HRA := zH (HRA.out.below hb)
 replace HLA := zH (HLA.out.below hb)
 replace HRO := zH (HRO.out.below hb)
 replace HLO := zH (HLO.out.below hb)
 replace HB := zH (HB.out.trans (hb.mono HB.out.size))
 clear hb
 clear hfd
 go_wp2_with fail
 refine (sorted_good _ ma l.length (by omega) _ HRA.out SA.out).mono ?_
 rintro e w11 ⟨rfl, hb⟩
 replace HM := zH (HM.out.below hb)
 replace HRA := zH (HRA.out.below hb)
 replace HLA := zH (HLA.out.below hb)
 replace HRO := zH (HRO.out.below hb)
 replace HLO := zH (HLO.out.below hb)
 replace HB := zH (HB.out.trans (hb.mono HB.out.size))
 clear hb
 go_wp2_with fail
 have hfd := find_any _ _ ma ga m 0 _ HLA.out HGA.out HM.out (fun z hz => (SA.out.small (by omega) z hz).fit) HF.out
 rw [EA.out] at hfd
 refine (hfd).mono ?_
 rintro e w12 ⟨rfl, hb⟩
 replace HM := zH (HM.out.below hb)
 replace HRA := zH (HRA.out.below hb)
 replace HLA := zH (HLA.out.below hb)
 replace HRO := zH (HRO.out.below hb)
 replace HLO := zH (HLO.out.below hb)
 replace HB := zH (HB.out.trans (hb.mono HB.out.size))
 clear hb
 clear hfd
 go_wp2_with fail
 have hsm := refSame_any _ _ ma mo _ HRA.out HRO.out (SA.out.small (by omega)) (SO.out.small (by omega))
 rw [decide_eq_true HEQ.out] at hsm
 refine (hsm).mono ?_
 rintro e w13 ⟨rfl, hb⟩
 replace HM := zH (HM.out.below hb)
 replace HRA := zH (HRA.out.below hb)
 replace HLA := zH (HLA.out.below hb)
 replace HRO := zH (HRO.out.below hb)
 replace HLO := zH (HLO.out.below hb)
 replace HB := zH (HB.out.trans (hb.mono HB.out.size))
 clear hb
 clear hsm
 go_wp2_with fail
 refine (known_law _).mono ?_
 rintro e w14 ⟨rfl, hb⟩
 replace HM := zH (HM.out.below hb)
 replace HRA := zH (HRA.out.below hb)
 replace HLA := zH (HLA.out.below hb)
 replace HRO := zH (HRO.out.below hb)
 replace HLO := zH (HLO.out.below hb)
 replace HB := zH (HB.out.trans (hb.mono HB.out.size))
 clear hb
 go_wp2
 go_ret
 exact ⟨rfl, HB.out⟩
set_option maxRecDepth 100000 in
set_option maxHeartbeats 16000000 in
theorem machine_oklong (x : Node) (v : Value) (near : Int) (same : Bool) (srcs : Int) (l : List Ev) (al : Option Addr) (cl : Nat) (hcl : l.length ≤ cl) (m : List Int) (am : Option Addr) (cm : Nat) (hfm : fitL m) (w : World) (hk : RdK w x.ks v) (hr : Rd Ev.cells 5 w (.slice al l.length cl) l) (hm : Rd intC 1 w (.slice am m.length cm) m)
 (hq : queryP srcs x near = true) (he : eventsP srcs l = true) (ma : List (List Int)) (ha : matchP l (formOf x) near same = some ma) (ho : runP (autoP x) near same l = none) :
 Calls Tryz.prog 5 #[.agg (queryA x v near same), .int .i64 srcs, .slice al l.length cl, .slice am m.length cm] w fun e w' => e = .returned (.bool true) ∧ Below w.heap.size w w' := by
 obtain ⟨a0, c0, rfl⟩ : ∃ a c, v = .slice a x.ks.len c := by obtain ⟨a, c, e, _⟩ := hk; exact ⟨a, c, e⟩
 have hA := fun W (h : Below w.heap.size w W) => all_out l al cl hcl x _ near same srcs W (hr.below h) (hk.below h)
 have hU := fun W (h : Below w.heap.size w W) => auto_out x _ near same srcs W (hk.below h)
 have hall : allRes srcs l x near same = (ma, 0) := by unfold allRes; rw [hq, he, ha]; rfl
 have hrun : runRes srcs (autoP x) near same l = ([], 3) := by unfold runRes runOk; rw [autoP_good hq, he, (query_parts hq).2.2, ho, show inP srcs 1 4 = true by unfold queryP at hq; simp only [Bool.and_eq_true] at hq; exact hq.1.1]; rfl
 rw [hall] at hA
 rw [hq, if_pos rfl, if_pos rfl] at hU
 have hI := fun W (h : Below w.heap.size w W) => is_out l al cl hcl m am cm x _ near same srcs W (hr.below h) (hm.below h) (hk.below h)
 have hi := is_spec (x := x) (near := near) (same := same) hq he m
 rw [hi.1] at hI
 obtain ⟨ib, hib⟩ : ∃ b, b = (isRes srcs l x near same m).1 := ⟨_, rfl⟩
 rw [← hib] at hI
 have hS := fun W (h : Below w.heap.size w W) => refAsked_any x _ near same srcs l _ W (hk.below h) (hr.below h)
 rw [hq, he] at hS
 have h60 := (events_small he).1
 have HM := zH hm
 have HL := zH hr
 have HF := zH hfm
 have ra := match_spec he ha
 have SA := zH (incI_row ra.1 fun z hz => lang_inc ((ra.2 z).1 hz).1)
 have ea : decide (m ∈ ma) = ib := by
  rw [hib, Bool.eq_iff_iff, decide_eq_true_iff, ra.2, hi.2]
 have EA := zH ea
 have HA := zH hA
 have HU := zH hU
 have HI := zH hI
 have HS := zH hS
 have HQ := zH (zA hq he)
 have HR := zH hrun
 have n60 := h60
 clear hA hU hI hS hq he ha ho hrun hall hi hib hk hr hm hfm h60 ra ea
 have HB := zH (Below.refl w.heap.size w)
 go_enter Tryz.func5, Tryz.ntmps5
 go_wp2_with fail
 refine zX (G := fun W => Calls _ _ _ W _) w _ _ fun w1 hb hz hx => ?_
 have q0 := zC hx 0
 have q1 := zC hx 1
 have q2 := zC hx 2
 have q3 := zC hx 3
 have q4 := zC hx 4
 have q5 := zC hx 5
 have q6 := zC hx 6
 have q7 := zC hx 7
 clear hx hz
 replace HM := zH (HM.out.below hb)
 replace HL := zH (HL.out.below hb)
 replace HB := zH (HB.out.trans (hb.mono HB.out.size))
 clear hb
 refine (HA.out _ HB.out).mono ?_
 rintro e w2 ⟨va, rfl, hall, hb⟩
 replace HM := zH (HM.out.below hb)
 replace HL := zH (HL.out.below hb)
 replace q0 := zB hb q0
 replace q1 := zB hb q1
 replace q2 := zB hb q2
 replace q3 := zB hb q3
 replace q4 := zB hb q4
 replace q5 := zB hb q5
 replace q6 := zB hb q6
 replace q7 := zB hb q7
 replace HB := zH (HB.out.trans (hb.mono HB.out.size))
 clear hb
 obtain ⟨aa, rfl⟩ := hall.form
 obtain ⟨ga, hga, hla⟩ := hall.ll
 have HRA := zH hall.rdLL
 have HGA := zH hga
 clear hga
 have HLA := zH hla
 clear hla
 clear hall
 go_wp2_with fail
 refine (HU.out _ HB.out).mono ?_
 rintro e w3 ⟨v1, v2, v3, v4, rfl, hau, hb⟩
 replace HM := zH (HM.out.below hb)
 replace HL := zH (HL.out.below hb)
 replace HRA := zH (HRA.out.below hb)
 replace HLA := zH (HLA.out.below hb)
 replace q0 := zB hb q0
 replace q1 := zB hb q1
 replace q2 := zB hb q2
 replace q3 := zB hb q3
 replace q4 := zB hb q4
 replace q5 := zB hb q5
 replace q6 := zB hb q6
 replace q7 := zB hb q7
 replace HB := zH (HB.out.trans (hb.mono HB.out.size))
 clear hb
 obtain ⟨a1, k1, rfl⟩ : ∃ a c, v1 = .slice a (autoP x).tests.length c := by obtain ⟨_, a, c, rfl, _⟩ := hau.tests; exact ⟨a, c, rfl⟩
 obtain ⟨a2, k2, rfl⟩ : ∃ a c, v2 = .slice a (autoP x).first.length c := by obtain ⟨_, a, c, rfl, _⟩ := hau.first; exact ⟨a, c, rfl⟩
 obtain ⟨a3, k3, rfl⟩ : ∃ a c, v3 = .slice a (autoP x).last.length c := by obtain ⟨_, a, c, rfl, _⟩ := hau.last; exact ⟨a, c, rfl⟩
 obtain ⟨a4, k4, rfl⟩ : ∃ a c, v4 = .slice a (autoP x).follow.length c := by obtain ⟨_, a, c, rfl, _⟩ := hau.follow; exact ⟨a, c, rfl⟩
 have HAU := zH hau
 clear hau
 go_upto_region 3 with (fail)
 refine zX (G := fun W => Code.wp _ _ _ _ W) w3 _ _ fun w4 hb hz hx => ?_
 have d0 := zC hx 0
 have d1 := zC hx 1
 have d2 := zC hx 2
 have d3 := zC hx 3
 clear hx hz
 replace HM := zH (HM.out.below hb)
 replace HL := zH (HL.out.below hb)
 replace HRA := zH (HRA.out.below hb)
 replace HLA := zH (HLA.out.below hb)
 replace HAU := zH (HAU.out.below hb)
 replace q0 := zB hb q0
 replace q1 := zB hb q1
 replace q2 := zB hb q2
 replace q3 := zB hb q3
 replace q4 := zB hb q4
 replace q5 := zB hb q5
 replace q6 := zB hb q6
 replace q7 := zB hb q7
 replace HB := zH (HB.out.trans (hb.mono HB.out.size))
 clear hb
 go_wp2_with fail
 refine (HS.out _ HB.out).mono ?_
 rintro e w5 ⟨rfl, hb⟩
 replace HM := zH (HM.out.below hb)
 replace HL := zH (HL.out.below hb)
 replace HRA := zH (HRA.out.below hb)
 replace HLA := zH (HLA.out.below hb)
 replace HAU := zH (HAU.out.below hb)
 replace q0 := zB hb q0
 replace q1 := zB hb q1
 replace q2 := zB hb q2
 replace q3 := zB hb q3
 replace q4 := zB hb q4
 replace q5 := zB hb q5
 replace q6 := zB hb q6
 replace q7 := zB hb q7
 replace d0 := zB hb d0
 replace d1 := zB hb d1
 replace d2 := zB hb d2
 replace d3 := zB hb d3
 replace HB := zH (HB.out.trans (hb.mono HB.out.size))
 clear hb
 go_wp2_with fail
 have hfo := refFormed_any _ _ _ _ (autoP x) srcs _ HAU.out
 rw [autoP_good HQ.out.1, show inP srcs 1 4 = true by have := HQ.out.1; unfold queryP at this; simp only [Bool.and_eq_true] at this; exact this.1.1] at hfo
 refine (hfo).mono ?_
 rintro e w6 ⟨rfl, hb⟩
 replace HM := zH (HM.out.below hb)
 replace HL := zH (HL.out.below hb)
 replace HRA := zH (HRA.out.below hb)
 replace HLA := zH (HLA.out.below hb)
 replace HAU := zH (HAU.out.below hb)
 replace q0 := zB hb q0
 replace q1 := zB hb q1
 replace q2 := zB hb q2
 replace q3 := zB hb q3
 replace q4 := zB hb q4
 replace q5 := zB hb q5
 replace q6 := zB hb q6
 replace q7 := zB hb q7
 replace d0 := zB hb d0
 replace d1 := zB hb d1
 replace d2 := zB hb d2
 replace d3 := zB hb d3
 replace HB := zH (HB.out.trans (hb.mono HB.out.size))
 clear hb
 clear hfo
 go_wp2_with fail
 have hrn := run_out _ _ _ _ (autoP x) near same srcs l al cl _ HAU.out HL.out (by assumption) (autoP_len HQ.out.1)
 rw [HR.out] at hrn
 refine (hrn).mono ?_
 rintro e w7 ⟨vo, rfl, hown, hb⟩
 replace HM := zH (HM.out.below hb)
 replace HL := zH (HL.out.below hb)
 replace HRA := zH (HRA.out.below hb)
 replace HLA := zH (HLA.out.below hb)
 replace HAU := zH (HAU.out.below hb)
 replace q0 := zB hb q0
 replace q1 := zB hb q1
 replace q2 := zB hb q2
 replace q3 := zB hb q3
 replace q4 := zB hb q4
 replace q5 := zB hb q5
 replace q6 := zB hb q6
 replace q7 := zB hb q7
 replace d0 := zB hb d0
 replace d1 := zB hb d1
 replace d2 := zB hb d2
 replace d3 := zB hb d3
 replace HB := zH (HB.out.trans (hb.mono HB.out.size))
 clear hb
 clear hrn
 obtain ⟨ao, rfl⟩ := hown.form
 clear hown
 clear HAU
 clear d0
 clear d1
 clear d2
 clear d3
 go_wp2_with fail
 refine (HI.out _ HB.out).mono ?_
 rintro e w8 ⟨rfl, hb⟩
 replace HM := zH (HM.out.below hb)
 replace HL := zH (HL.out.below hb)
 replace HRA := zH (HRA.out.below hb)
 replace HLA := zH (HLA.out.below hb)
 replace q0 := zB hb q0
 replace q1 := zB hb q1
 replace q2 := zB hb q2
 replace q3 := zB hb q3
 replace q4 := zB hb q4
 replace q5 := zB hb q5
 replace q6 := zB hb q6
 replace q7 := zB hb q7
 replace HB := zH (HB.out.trans (hb.mono HB.out.size))
 clear hb
 clear HL
 clear q0
 clear q1
 clear q2
 clear q3
 clear q4
 clear q5
 clear q6
 clear q7
 go_wp2_with fail
 refine (sorted_good _ ma l.length (by omega) _ HRA.out SA.out).mono ?_
 rintro e w9 ⟨rfl, hb⟩
 replace HM := zH (HM.out.below hb)
 replace HRA := zH (HRA.out.below hb)
 replace HLA := zH (HLA.out.below hb)
 replace HB := zH (HB.out.trans (hb.mono HB.out.size))
 clear hb
 go_wp2_with fail
 have hfd := find_any _ _ ma ga m 0 _ HLA.out HGA.out HM.out (fun z hz => (SA.out.small (by omega) z hz).fit) HF.out
 rw [EA.out] at hfd
 refine (hfd).mono ?_
 rintro e w10 ⟨rfl, hb⟩
 replace HM := zH (HM.out.below hb)
 replace HRA := zH (HRA.out.below hb)
 replace HLA := zH (HLA.out.below hb)
 replace HB := zH (HB.out.trans (hb.mono HB.out.size))
 clear hb
 clear hfd
 go_wp2_with fail
 refine (known_law _).mono ?_
 rintro e w11 ⟨rfl, hb⟩
 replace HM := zH (HM.out.below hb)
 replace HRA := zH (HRA.out.below hb)
 replace HLA := zH (HLA.out.below hb)
 replace HB := zH (HB.out.trans (hb.mono HB.out.size))
 clear hb
 go_wp2
 go_ret
 exact ⟨rfl, HB.out⟩
set_option maxRecDepth 100000 in
set_option maxHeartbeats 16000000 in
theorem machine_longok (x : Node) (v : Value) (near : Int) (same : Bool) (srcs : Int) (l : List Ev) (al : Option Addr) (cl : Nat) (hcl : l.length ≤ cl) (m : List Int) (am : Option Addr) (cm : Nat) (hfm : fitL m) (w : World) (hk : RdK w x.ks v) (hr : Rd Ev.cells 5 w (.slice al l.length cl) l) (hm : Rd intC 1 w (.slice am m.length cm) m)
 (hq : queryP srcs x near = true) (he : eventsP srcs l = true) (ha : matchP l (formOf x) near same = none) (mo : List (List Int)) (ho : runP (autoP x) near same l = some mo) :
 Calls Tryz.prog 5 #[.agg (queryA x v near same), .int .i64 srcs, .slice al l.length cl, .slice am m.length cm] w fun e w' => e = .returned (.bool true) ∧ Below w.heap.size w w' := by
 obtain ⟨a0, c0, rfl⟩ : ∃ a c, v = .slice a x.ks.len c := by obtain ⟨a, c, e, _⟩ := hk; exact ⟨a, c, e⟩
 have hA := fun W (h : Below w.heap.size w W) => all_out l al cl hcl x _ near same srcs W (hr.below h) (hk.below h)
 have hU := fun W (h : Below w.heap.size w W) => auto_out x _ near same srcs W (hk.below h)
 have hall : allRes srcs l x near same = ([], 3) := by unfold allRes; rw [hq, he, ha]; rfl
 have hrun : runRes srcs (autoP x) near same l = (mo, 0) := by unfold runRes runOk; rw [autoP_good hq, he, (query_parts hq).2.2, ho, show inP srcs 1 4 = true by unfold queryP at hq; simp only [Bool.and_eq_true] at hq; exact hq.1.1]; rfl
 rw [hall] at hA
 rw [hq, if_pos rfl, if_pos rfl] at hU
 have hI := fun W (h : Below w.heap.size w W) => is_out l al cl hcl m am cm x _ near same srcs W (hr.below h) (hm.below h) (hk.below h)
 have hi := is_spec (x := x) (near := near) (same := same) hq he m
 rw [hi.1] at hI
 obtain ⟨ib, hib⟩ : ∃ b, b = (isRes srcs l x near same m).1 := ⟨_, rfl⟩
 rw [← hib] at hI
 have hS := fun W (h : Below w.heap.size w W) => refAsked_any x _ near same srcs l _ W (hk.below h) (hr.below h)
 rw [hq, he] at hS
 have h60 := (events_small he).1
 have HM := zH hm
 have HL := zH hr
 have HF := zH hfm
 have ro := run_spec hq he ho
 have SO := zH (incI_row ro.1 fun z hz => lang_inc ((ro.2 z).1 hz).1)
 have eo : decide (m ∈ mo) = ib := by
  rw [hib, Bool.eq_iff_iff, decide_eq_true_iff, ro.2, hi.2]
 have EO := zH eo
 have HA := zH hA
 have HU := zH hU
 have HI := zH hI
 have HS := zH hS
 have HQ := zH (zA hq he)
 have HR := zH hrun
 have n60 := h60
 clear hA hU hI hS hq he ha ho hrun hall hi hib hk hr hm hfm h60 ro eo
 have HB := zH (Below.refl w.heap.size w)
 go_enter Tryz.func5, Tryz.ntmps5
 go_wp2_with fail
 refine zX (G := fun W => Calls _ _ _ W _) w _ _ fun w1 hb hz hx => ?_
 have q0 := zC hx 0
 have q1 := zC hx 1
 have q2 := zC hx 2
 have q3 := zC hx 3
 have q4 := zC hx 4
 have q5 := zC hx 5
 have q6 := zC hx 6
 have q7 := zC hx 7
 clear hx hz
 replace HM := zH (HM.out.below hb)
 replace HL := zH (HL.out.below hb)
 replace HB := zH (HB.out.trans (hb.mono HB.out.size))
 clear hb
 refine (HA.out _ HB.out).mono ?_
 rintro e w2 ⟨va, rfl, hall, hb⟩
 replace HM := zH (HM.out.below hb)
 replace HL := zH (HL.out.below hb)
 replace q0 := zB hb q0
 replace q1 := zB hb q1
 replace q2 := zB hb q2
 replace q3 := zB hb q3
 replace q4 := zB hb q4
 replace q5 := zB hb q5
 replace q6 := zB hb q6
 replace q7 := zB hb q7
 replace HB := zH (HB.out.trans (hb.mono HB.out.size))
 clear hb
 obtain ⟨aa, rfl⟩ := hall.form
 clear hall
 go_wp2_with fail
 refine (HU.out _ HB.out).mono ?_
 rintro e w3 ⟨v1, v2, v3, v4, rfl, hau, hb⟩
 replace HM := zH (HM.out.below hb)
 replace HL := zH (HL.out.below hb)
 replace q0 := zB hb q0
 replace q1 := zB hb q1
 replace q2 := zB hb q2
 replace q3 := zB hb q3
 replace q4 := zB hb q4
 replace q5 := zB hb q5
 replace q6 := zB hb q6
 replace q7 := zB hb q7
 replace HB := zH (HB.out.trans (hb.mono HB.out.size))
 clear hb
 obtain ⟨a1, k1, rfl⟩ : ∃ a c, v1 = .slice a (autoP x).tests.length c := by obtain ⟨_, a, c, rfl, _⟩ := hau.tests; exact ⟨a, c, rfl⟩
 obtain ⟨a2, k2, rfl⟩ : ∃ a c, v2 = .slice a (autoP x).first.length c := by obtain ⟨_, a, c, rfl, _⟩ := hau.first; exact ⟨a, c, rfl⟩
 obtain ⟨a3, k3, rfl⟩ : ∃ a c, v3 = .slice a (autoP x).last.length c := by obtain ⟨_, a, c, rfl, _⟩ := hau.last; exact ⟨a, c, rfl⟩
 obtain ⟨a4, k4, rfl⟩ : ∃ a c, v4 = .slice a (autoP x).follow.length c := by obtain ⟨_, a, c, rfl, _⟩ := hau.follow; exact ⟨a, c, rfl⟩
 have HAU := zH hau
 clear hau
 go_upto_region 3 with (fail)
 refine zX (G := fun W => Code.wp _ _ _ _ W) w3 _ _ fun w4 hb hz hx => ?_
 have d0 := zC hx 0
 have d1 := zC hx 1
 have d2 := zC hx 2
 have d3 := zC hx 3
 clear hx hz
 replace HM := zH (HM.out.below hb)
 replace HL := zH (HL.out.below hb)
 replace HAU := zH (HAU.out.below hb)
 replace q0 := zB hb q0
 replace q1 := zB hb q1
 replace q2 := zB hb q2
 replace q3 := zB hb q3
 replace q4 := zB hb q4
 replace q5 := zB hb q5
 replace q6 := zB hb q6
 replace q7 := zB hb q7
 replace HB := zH (HB.out.trans (hb.mono HB.out.size))
 clear hb
 go_wp2_with fail
 refine (HS.out _ HB.out).mono ?_
 rintro e w5 ⟨rfl, hb⟩
 replace HM := zH (HM.out.below hb)
 replace HL := zH (HL.out.below hb)
 replace HAU := zH (HAU.out.below hb)
 replace q0 := zB hb q0
 replace q1 := zB hb q1
 replace q2 := zB hb q2
 replace q3 := zB hb q3
 replace q4 := zB hb q4
 replace q5 := zB hb q5
 replace q6 := zB hb q6
 replace q7 := zB hb q7
 replace d0 := zB hb d0
 replace d1 := zB hb d1
 replace d2 := zB hb d2
 replace d3 := zB hb d3
 replace HB := zH (HB.out.trans (hb.mono HB.out.size))
 clear hb
 go_wp2_with fail
 have hfo := refFormed_any _ _ _ _ (autoP x) srcs _ HAU.out
 rw [autoP_good HQ.out.1, show inP srcs 1 4 = true by have := HQ.out.1; unfold queryP at this; simp only [Bool.and_eq_true] at this; exact this.1.1] at hfo
 refine (hfo).mono ?_
 rintro e w6 ⟨rfl, hb⟩
 replace HM := zH (HM.out.below hb)
 replace HL := zH (HL.out.below hb)
 replace HAU := zH (HAU.out.below hb)
 replace q0 := zB hb q0
 replace q1 := zB hb q1
 replace q2 := zB hb q2
 replace q3 := zB hb q3
 replace q4 := zB hb q4
 replace q5 := zB hb q5
 replace q6 := zB hb q6
 replace q7 := zB hb q7
 replace d0 := zB hb d0
 replace d1 := zB hb d1
 replace d2 := zB hb d2
 replace d3 := zB hb d3
 replace HB := zH (HB.out.trans (hb.mono HB.out.size))
 clear hb
 clear hfo
 go_wp2_with fail
 have hrn := run_out _ _ _ _ (autoP x) near same srcs l al cl _ HAU.out HL.out (by assumption) (autoP_len HQ.out.1)
 rw [HR.out] at hrn
 refine (hrn).mono ?_
 rintro e w7 ⟨vo, rfl, hown, hb⟩
 replace HM := zH (HM.out.below hb)
 replace HL := zH (HL.out.below hb)
 replace HAU := zH (HAU.out.below hb)
 replace q0 := zB hb q0
 replace q1 := zB hb q1
 replace q2 := zB hb q2
 replace q3 := zB hb q3
 replace q4 := zB hb q4
 replace q5 := zB hb q5
 replace q6 := zB hb q6
 replace q7 := zB hb q7
 replace d0 := zB hb d0
 replace d1 := zB hb d1
 replace d2 := zB hb d2
 replace d3 := zB hb d3
 replace HB := zH (HB.out.trans (hb.mono HB.out.size))
 clear hb
 clear hrn
 obtain ⟨ao, rfl⟩ := hown.form
 obtain ⟨go, hgo, hlo⟩ := hown.ll
 have HRO := zH hown.rdLL
 have HGO := zH hgo
 clear hgo
 have HLO := zH hlo
 clear hlo
 clear hown
 clear HAU
 clear d0
 clear d1
 clear d2
 clear d3
 go_wp2_with fail
 refine (HI.out _ HB.out).mono ?_
 rintro e w8 ⟨rfl, hb⟩
 replace HM := zH (HM.out.below hb)
 replace HL := zH (HL.out.below hb)
 replace HRO := zH (HRO.out.below hb)
 replace HLO := zH (HLO.out.below hb)
 replace q0 := zB hb q0
 replace q1 := zB hb q1
 replace q2 := zB hb q2
 replace q3 := zB hb q3
 replace q4 := zB hb q4
 replace q5 := zB hb q5
 replace q6 := zB hb q6
 replace q7 := zB hb q7
 replace HB := zH (HB.out.trans (hb.mono HB.out.size))
 clear hb
 clear HL
 clear q0
 clear q1
 clear q2
 clear q3
 clear q4
 clear q5
 clear q6
 clear q7
 go_wp2_with fail
 refine (sorted_good _ mo l.length (by omega) _ HRO.out SO.out).mono ?_
 rintro e w9 ⟨rfl, hb⟩
 replace HM := zH (HM.out.below hb)
 replace HRO := zH (HRO.out.below hb)
 replace HLO := zH (HLO.out.below hb)
 replace HB := zH (HB.out.trans (hb.mono HB.out.size))
 clear hb
 go_wp2_with fail
 have hfd := find_any _ _ mo go m 0 _ HLO.out HGO.out HM.out (fun z hz => (SO.out.small (by omega) z hz).fit) HF.out
 rw [EO.out] at hfd
 refine (hfd).mono ?_
 rintro e w10 ⟨rfl, hb⟩
 replace HM := zH (HM.out.below hb)
 replace HRO := zH (HRO.out.below hb)
 replace HLO := zH (HLO.out.below hb)
 replace HB := zH (HB.out.trans (hb.mono HB.out.size))
 clear hb
 clear hfd
 go_wp2_with fail
 refine (known_law _).mono ?_
 rintro e w11 ⟨rfl, hb⟩
 replace HM := zH (HM.out.below hb)
 replace HRO := zH (HRO.out.below hb)
 replace HLO := zH (HLO.out.below hb)
 replace HB := zH (HB.out.trans (hb.mono HB.out.size))
 clear hb
 go_wp2
 go_ret
 exact ⟨rfl, HB.out⟩
set_option maxRecDepth 100000 in
set_option maxHeartbeats 16000000 in
theorem machine_longlong (x : Node) (v : Value) (near : Int) (same : Bool) (srcs : Int) (l : List Ev) (al : Option Addr) (cl : Nat) (hcl : l.length ≤ cl) (m : List Int) (am : Option Addr) (cm : Nat) (hfm : fitL m) (w : World) (hk : RdK w x.ks v) (hr : Rd Ev.cells 5 w (.slice al l.length cl) l) (hm : Rd intC 1 w (.slice am m.length cm) m)
 (hq : queryP srcs x near = true) (he : eventsP srcs l = true) (ha : matchP l (formOf x) near same = none) (ho : runP (autoP x) near same l = none) :
 Calls Tryz.prog 5 #[.agg (queryA x v near same), .int .i64 srcs, .slice al l.length cl, .slice am m.length cm] w fun e w' => e = .returned (.bool true) ∧ Below w.heap.size w w' := by
 obtain ⟨a0, c0, rfl⟩ : ∃ a c, v = .slice a x.ks.len c := by obtain ⟨a, c, e, _⟩ := hk; exact ⟨a, c, e⟩
 have hA := fun W (h : Below w.heap.size w W) => all_out l al cl hcl x _ near same srcs W (hr.below h) (hk.below h)
 have hU := fun W (h : Below w.heap.size w W) => auto_out x _ near same srcs W (hk.below h)
 have hall : allRes srcs l x near same = ([], 3) := by unfold allRes; rw [hq, he, ha]; rfl
 have hrun : runRes srcs (autoP x) near same l = ([], 3) := by unfold runRes runOk; rw [autoP_good hq, he, (query_parts hq).2.2, ho, show inP srcs 1 4 = true by unfold queryP at hq; simp only [Bool.and_eq_true] at hq; exact hq.1.1]; rfl
 rw [hall] at hA
 rw [hq, if_pos rfl, if_pos rfl] at hU
 have hI := fun W (h : Below w.heap.size w W) => is_out l al cl hcl m am cm x _ near same srcs W (hr.below h) (hm.below h) (hk.below h)
 have hi := is_spec (x := x) (near := near) (same := same) hq he m
 rw [hi.1] at hI
 obtain ⟨ib, hib⟩ : ∃ b, b = (isRes srcs l x near same m).1 := ⟨_, rfl⟩
 rw [← hib] at hI
 have hS := fun W (h : Below w.heap.size w W) => refAsked_any x _ near same srcs l _ W (hk.below h) (hr.below h)
 rw [hq, he] at hS
 have h60 := (events_small he).1
 have HM := zH hm
 have HL := zH hr
 have HF := zH hfm
 have HA := zH hA
 have HU := zH hU
 have HI := zH hI
 have HS := zH hS
 have HQ := zH (zA hq he)
 have HR := zH hrun
 have n60 := h60
 clear hA hU hI hS hq he ha ho hrun hall hi hib hk hr hm hfm h60
 have HB := zH (Below.refl w.heap.size w)
 go_enter Tryz.func5, Tryz.ntmps5
 go_wp2_with fail
 refine zX (G := fun W => Calls _ _ _ W _) w _ _ fun w1 hb hz hx => ?_
 have q0 := zC hx 0
 have q1 := zC hx 1
 have q2 := zC hx 2
 have q3 := zC hx 3
 have q4 := zC hx 4
 have q5 := zC hx 5
 have q6 := zC hx 6
 have q7 := zC hx 7
 clear hx hz
 replace HM := zH (HM.out.below hb)
 replace HL := zH (HL.out.below hb)
 replace HB := zH (HB.out.trans (hb.mono HB.out.size))
 clear hb
 refine (HA.out _ HB.out).mono ?_
 rintro e w2 ⟨va, rfl, hall, hb⟩
 replace HM := zH (HM.out.below hb)
 replace HL := zH (HL.out.below hb)
 replace q0 := zB hb q0
 replace q1 := zB hb q1
 replace q2 := zB hb q2
 replace q3 := zB hb q3
 replace q4 := zB hb q4
 replace q5 := zB hb q5
 replace q6 := zB hb q6
 replace q7 := zB hb q7
 replace HB := zH (HB.out.trans (hb.mono HB.out.size))
 clear hb
 obtain ⟨aa, rfl⟩ := hall.form
 clear hall
 go_wp2_with fail
 refine (HU.out _ HB.out).mono ?_
 rintro e w3 ⟨v1, v2, v3, v4, rfl, hau, hb⟩
 replace HM := zH (HM.out.below hb)
 replace HL := zH (HL.out.below hb)
 replace q0 := zB hb q0
 replace q1 := zB hb q1
 replace q2 := zB hb q2
 replace q3 := zB hb q3
 replace q4 := zB hb q4
 replace q5 := zB hb q5
 replace q6 := zB hb q6
 replace q7 := zB hb q7
 replace HB := zH (HB.out.trans (hb.mono HB.out.size))
 clear hb
 obtain ⟨a1, k1, rfl⟩ : ∃ a c, v1 = .slice a (autoP x).tests.length c := by obtain ⟨_, a, c, rfl, _⟩ := hau.tests; exact ⟨a, c, rfl⟩
 obtain ⟨a2, k2, rfl⟩ : ∃ a c, v2 = .slice a (autoP x).first.length c := by obtain ⟨_, a, c, rfl, _⟩ := hau.first; exact ⟨a, c, rfl⟩
 obtain ⟨a3, k3, rfl⟩ : ∃ a c, v3 = .slice a (autoP x).last.length c := by obtain ⟨_, a, c, rfl, _⟩ := hau.last; exact ⟨a, c, rfl⟩
 obtain ⟨a4, k4, rfl⟩ : ∃ a c, v4 = .slice a (autoP x).follow.length c := by obtain ⟨_, a, c, rfl, _⟩ := hau.follow; exact ⟨a, c, rfl⟩
 have HAU := zH hau
 clear hau
 go_upto_region 3 with (fail)
 refine zX (G := fun W => Code.wp _ _ _ _ W) w3 _ _ fun w4 hb hz hx => ?_
 have d0 := zC hx 0
 have d1 := zC hx 1
 have d2 := zC hx 2
 have d3 := zC hx 3
 clear hx hz
 replace HM := zH (HM.out.below hb)
 replace HL := zH (HL.out.below hb)
 replace HAU := zH (HAU.out.below hb)
 replace q0 := zB hb q0
 replace q1 := zB hb q1
 replace q2 := zB hb q2
 replace q3 := zB hb q3
 replace q4 := zB hb q4
 replace q5 := zB hb q5
 replace q6 := zB hb q6
 replace q7 := zB hb q7
 replace HB := zH (HB.out.trans (hb.mono HB.out.size))
 clear hb
 go_wp2_with fail
 refine (HS.out _ HB.out).mono ?_
 rintro e w5 ⟨rfl, hb⟩
 replace HM := zH (HM.out.below hb)
 replace HL := zH (HL.out.below hb)
 replace HAU := zH (HAU.out.below hb)
 replace q0 := zB hb q0
 replace q1 := zB hb q1
 replace q2 := zB hb q2
 replace q3 := zB hb q3
 replace q4 := zB hb q4
 replace q5 := zB hb q5
 replace q6 := zB hb q6
 replace q7 := zB hb q7
 replace d0 := zB hb d0
 replace d1 := zB hb d1
 replace d2 := zB hb d2
 replace d3 := zB hb d3
 replace HB := zH (HB.out.trans (hb.mono HB.out.size))
 clear hb
 go_wp2_with fail
 have hfo := refFormed_any _ _ _ _ (autoP x) srcs _ HAU.out
 rw [autoP_good HQ.out.1, show inP srcs 1 4 = true by have := HQ.out.1; unfold queryP at this; simp only [Bool.and_eq_true] at this; exact this.1.1] at hfo
 refine (hfo).mono ?_
 rintro e w6 ⟨rfl, hb⟩
 replace HM := zH (HM.out.below hb)
 replace HL := zH (HL.out.below hb)
 replace HAU := zH (HAU.out.below hb)
 replace q0 := zB hb q0
 replace q1 := zB hb q1
 replace q2 := zB hb q2
 replace q3 := zB hb q3
 replace q4 := zB hb q4
 replace q5 := zB hb q5
 replace q6 := zB hb q6
 replace q7 := zB hb q7
 replace d0 := zB hb d0
 replace d1 := zB hb d1
 replace d2 := zB hb d2
 replace d3 := zB hb d3
 replace HB := zH (HB.out.trans (hb.mono HB.out.size))
 clear hb
 clear hfo
 go_wp2_with fail
 have hrn := run_out _ _ _ _ (autoP x) near same srcs l al cl _ HAU.out HL.out (by assumption) (autoP_len HQ.out.1)
 rw [HR.out] at hrn
 refine (hrn).mono ?_
 rintro e w7 ⟨vo, rfl, hown, hb⟩
 replace HM := zH (HM.out.below hb)
 replace HL := zH (HL.out.below hb)
 replace HAU := zH (HAU.out.below hb)
 replace q0 := zB hb q0
 replace q1 := zB hb q1
 replace q2 := zB hb q2
 replace q3 := zB hb q3
 replace q4 := zB hb q4
 replace q5 := zB hb q5
 replace q6 := zB hb q6
 replace q7 := zB hb q7
 replace d0 := zB hb d0
 replace d1 := zB hb d1
 replace d2 := zB hb d2
 replace d3 := zB hb d3
 replace HB := zH (HB.out.trans (hb.mono HB.out.size))
 clear hb
 clear hrn
 obtain ⟨ao, rfl⟩ := hown.form
 clear hown
 clear HAU
 clear d0
 clear d1
 clear d2
 clear d3
 go_wp2_with fail
 refine (HI.out _ HB.out).mono ?_
 rintro e w8 ⟨rfl, hb⟩
 replace HM := zH (HM.out.below hb)
 replace HL := zH (HL.out.below hb)
 replace q0 := zB hb q0
 replace q1 := zB hb q1
 replace q2 := zB hb q2
 replace q3 := zB hb q3
 replace q4 := zB hb q4
 replace q5 := zB hb q5
 replace q6 := zB hb q6
 replace q7 := zB hb q7
 replace HB := zH (HB.out.trans (hb.mono HB.out.size))
 clear hb
 clear HL
 clear q0
 clear q1
 clear q2
 clear q3
 clear q4
 clear q5
 clear q6
 clear q7
 go_wp2_with fail
 refine (known_law _).mono ?_
 rintro e w9 ⟨rfl, hb⟩
 replace HM := zH (HM.out.below hb)
 replace HB := zH (HB.out.trans (hb.mono HB.out.size))
 clear hb
 go_wp2
 go_ret
 exact ⟨rfl, HB.out⟩
theorem w_MatchMachine (x : Node) (v : Value) (near : Int) (same : Bool) (srcs : Int) (u : Value) (l : List Ev) (u2 : Value) (m : List Int) (w : World) (hk : RdK w x.ks v) (hr : Rd Ev.cells 5 w u l) (ok : SlOk u) (hm : Rd intC 1 w u2 m) (hfm : fitL m) :
 Calls Tryz.prog 5 #[.agg (queryA x v near same), .int .i64 srcs, u, u2] w fun e w' => e = .returned (.bool true) ∧ Below w.heap.size w w' := by
 obtain ⟨al, cl, rfl⟩ : ∃ a c, u = .slice a l.length c := by obtain ⟨_, a, c, rfl, _⟩ := hr; exact ⟨a, c, rfl⟩
 obtain ⟨am, cm, rfl⟩ : ∃ a c, u2 = .slice a m.length c := by obtain ⟨_, a, c, rfl, _⟩ := hm; exact ⟨a, c, rfl⟩
 have hcl : l.length ≤ cl := ok.le
 cases hok : queryP srcs x near && eventsP srcs l with
 | false => exact machine_bad x v near same srcs l al cl hcl m am cm hfm w hk hr hm hok
 | true =>
  obtain ⟨hq, he⟩ := Bool.and_eq_true_iff.1 hok
  cases ha : matchP l (formOf x) near same with
  | none =>
   cases ho : runP (autoP x) near same l with
   | none => exact machine_longlong x v near same srcs l al cl hcl m am cm hfm w hk hr hm hq he ha ho
   | some mo => exact machine_longok x v near same srcs l al cl hcl m am cm hfm w hk hr hm hq he ha mo ho
  | some ma =>
   cases ho : runP (autoP x) near same l with
   | none => exact machine_oklong x v near same srcs l al cl hcl m am cm hfm w hk hr hm hq he ma ha ho
   | some mo => exact machine_okok x v near same srcs l al cl hcl m am cm hfm w hk hr hm hq he ma ha mo ho
end
end Go.Proofs.YtgiploddoffmjaaGreat
