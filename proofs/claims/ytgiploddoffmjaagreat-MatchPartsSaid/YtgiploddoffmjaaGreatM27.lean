/- My texts, joined: W88. -/
import Derived.Below
import Derived.BigQuiet
import Derived.ChangeKeysEq
import Derived.Deep.AppendLies
import Derived.Deep.CutBlock
import Derived.Deep.DeepCutAuto
import Derived.Deep.LoopGhost
import Derived.Deep.QuietTactic
import Derived.Deep.RegionHeld
import Derived.Deep.RegionHeld3
import Derived.Deep.RegionLaw
import Derived.Defers
import Derived.Ground.Names2Prog
import Derived.Ground.Names8Prog
import Derived.Ground.SlsfProg
import Derived.Handy
import Derived.KernelRfl
import Derived.Laws.AppendOwn
import Derived.Laws.AppendOwnNone
import Derived.Laws.CopyRow
import Derived.Laws.Pointers
import Derived.Laws.StructEq
import Derived.Lib.Hide
import Derived.Lib.Overlaps
import Derived.LoopIn
import Derived.LoopN
import Derived.LoopNIn
import Derived.LoopTactic
import Derived.MapKept
import Derived.Maps.AppendAt
import Derived.Maps.OwnOps
import Derived.Maps.RangeRun
import Derived.Maps.RangeWalk
import Derived.Outline
import Derived.OwnWalk
import Derived.OwnWalkIn
import Derived.RangeFuncBound
import Derived.RangeFuncCalls
import Derived.RangeFuncLeaves
import Derived.RangeFuncNested
import Derived.Recover
import Derived.Shelf.Abstract
import Derived.Shelf.RegionOpen
import Derived.Shelf.SlGeneric
import Derived.Shelf.SlLaysF0
import Derived.Shelf.SlSortCmp.HeapSort1
import Derived.Shelf.SlSortCmp.Insertion
import Derived.Shelf.SlSortCmp.Insertion1
import Derived.Shelf.SlSortCmp.Median1
import Derived.Shelf.SlSortCmp.NoneTotal
import Derived.Shelf.SlSortCmp.PartialInsertion1
import Derived.Shelf.SlSortCmp.Partition1
import Derived.Shelf.SlSortCmp.PartitionEqual1
import Derived.Shelf.SlSortCmp.Pdq1
import Derived.Shelf.SlSortCmp.Pivot1
import Derived.Shelf.SlSortCmp.ReverseRange1
import Derived.Shelf.SlSortCmp.SiftDown1
import Derived.Shelf.SlSortCmp.Whole1
import Derived.Shelf.SlSortCmp.WholeK
import Derived.Shelf.Slices.In.SortNone
import Derived.Shelf.Small.Bits
import Derived.Shelf.Sort.Plain
import Derived.Shelf.Spec.SlicesGrow
import Derived.TacticsInMore
import Derived.Test.YtgiploddoffmjaaGreatProg
import Derived.WalkKit
import Derived.WalkLawsBesides
import Derived.WalkSpells
import Derived.Test.YtgiploddoffmjaaGreatM0
import Derived.Test.YtgiploddoffmjaaGreatM1
import Derived.Test.YtgiploddoffmjaaGreatM2
import Derived.Test.YtgiploddoffmjaaGreatM3
import Derived.Test.YtgiploddoffmjaaGreatM4
import Derived.Test.YtgiploddoffmjaaGreatM5
import Derived.Test.YtgiploddoffmjaaGreatM6
import Derived.Test.YtgiploddoffmjaaGreatM7
import Derived.Test.YtgiploddoffmjaaGreatM8
import Derived.Test.YtgiploddoffmjaaGreatM9
import Derived.Test.YtgiploddoffmjaaGreatM10
import Derived.Test.YtgiploddoffmjaaGreatM11
import Derived.Test.YtgiploddoffmjaaGreatM12
import Derived.Test.YtgiploddoffmjaaGreatM13
import Derived.Test.YtgiploddoffmjaaGreatM14
import Derived.Test.YtgiploddoffmjaaGreatM15
import Derived.Test.YtgiploddoffmjaaGreatM16
import Derived.Test.YtgiploddoffmjaaGreatM17
import Derived.Test.YtgiploddoffmjaaGreatM18
import Derived.Test.YtgiploddoffmjaaGreatM19
import Derived.Test.YtgiploddoffmjaaGreatM20
import Derived.Test.YtgiploddoffmjaaGreatM21
import Derived.Test.YtgiploddoffmjaaGreatM22
import Derived.Test.YtgiploddoffmjaaGreatM23
import Derived.Test.YtgiploddoffmjaaGreatM24
import Derived.Test.YtgiploddoffmjaaGreatM25
import Derived.Test.YtgiploddoffmjaaGreatM26
set_option linter.unusedVariables false
set_option linter.unusedSimpArgs false
set_option linter.unusedSectionVars false
set_option maxRecDepth 10000
namespace Go.Proofs.YtgiploddoffmjaaGreat
section
open Go.RowKit Go.Shelf
set_option maxRecDepth 100000 in
set_option maxHeartbeats 32000000 in
theorem known_law (w : World) : Calls Tryz.prog 17 #[] w fun e w' => e = .returned (.bool true) ∧ Below w.heap.size w w' := by
 have HB := zH (Below.refl w.heap.size w)
 have HN := zH (fun W => RdK.nil W)
 go_enter Tryz.func17, Tryz.ntmps17
 go_wp2_with fail
 refine (a_law _).mono ?_
 rintro e w1 ⟨rfl, hb⟩
 replace HB := zH (HB.out.trans (hb.mono HB.out.size))
 clear hb
 go_wp2_with fail
 refine (b_law _).mono ?_
 rintro e w2 ⟨rfl, hb⟩
 replace HB := zH (HB.out.trans (hb.mono HB.out.size))
 clear hb
 go_wp2_with fail
 refine (then_law 10 (oneN tA) (oneN tB) _ _ _ (HN.out _) (HN.out _)).mono ?_
 rintro e w3 ⟨vab, rfl, hab, hb⟩
 replace HB := zH (HB.out.trans (hb.mono HB.out.size))
 clear hb
 obtain ⟨aab, cab, rfl, _⟩ := id hab
 have HAB := zH hab
 clear hab
 go_wp2_with fail
 refine zX (G := fun W => Calls _ _ _ W _) _ _ _ fun w4 hb hz hx => ?_
 have c0 := zC hx 0
 have c1 := zC hx 1
 have c2 := zC hx 2
 have c3 := zC hx 3
 have c4 := zC hx 4
 have c5 := zC hx 5
 clear hx hz
 replace HAB := zH (HAB.out.below hb)
 replace HB := zH (HB.out.trans (hb.mono HB.out.size))
 clear hb
 refine (query_law abN _ 200 _ HAB.out).mono ?_
 rintro e w5 ⟨rfl, hb⟩
 replace HAB := zH (HAB.out.below hb)
 replace c0 := zB hb c0
 replace c1 := zB hb c1
 replace c2 := zB hb c2
 replace c3 := zB hb c3
 replace c4 := zB hb c4
 replace c5 := zB hb c5
 replace HB := zH (HB.out.trans (hb.mono HB.out.size))
 clear hb
 go_wp2_with fail
 refine lit_ab _ (G := fun W => Calls _ _ _ W _) fun w6 hb rl => ?_
 replace HAB := zH (HAB.out.below hb)
 replace c0 := zB hb c0
 replace c1 := zB hb c1
 replace c2 := zB hb c2
 replace c3 := zB hb c3
 replace c4 := zB hb c4
 replace c5 := zB hb c5
 replace HB := zH (HB.out.trans (hb.mono HB.out.size))
 clear hb
 have RL := zH rl
 clear rl
 refine (found_law abN _ 200 _ _ _ HAB.out RL.out res_ab (smalls_ok _ (by decide))).mono ?_
 rintro e w7 ⟨rfl, hb⟩
 replace HAB := zH (HAB.out.below hb)
 replace RL := zH (RL.out.below hb)
 replace c0 := zB hb c0
 replace c1 := zB hb c1
 replace c2 := zB hb c2
 replace c3 := zB hb c3
 replace c4 := zB hb c4
 replace c5 := zB hb c5
 replace HB := zH (HB.out.trans (hb.mono HB.out.size))
 clear hb
 clear RL
 go_wp2_with fail
 refine (query_law abN _ 5 _ HAB.out).mono ?_
 rintro e w8 ⟨rfl, hb⟩
 replace HAB := zH (HAB.out.below hb)
 replace c0 := zB hb c0
 replace c1 := zB hb c1
 replace c2 := zB hb c2
 replace c3 := zB hb c3
 replace c4 := zB hb c4
 replace c5 := zB hb c5
 replace HB := zH (HB.out.trans (hb.mono HB.out.size))
 clear hb
 go_wp2_with fail
 refine lit_two _ (G := fun W => Calls _ _ _ W _) fun w9 hb rl => ?_
 replace HAB := zH (HAB.out.below hb)
 replace c0 := zB hb c0
 replace c1 := zB hb c1
 replace c2 := zB hb c2
 replace c3 := zB hb c3
 replace c4 := zB hb c4
 replace c5 := zB hb c5
 replace HB := zH (HB.out.trans (hb.mono HB.out.size))
 clear hb
 have RL := zH rl
 clear rl
 refine (found_law abN _ 5 _ _ _ HAB.out RL.out res_ab5 (smalls_ok _ (by decide))).mono ?_
 rintro e w10 ⟨rfl, hb⟩
 replace HAB := zH (HAB.out.below hb)
 replace RL := zH (RL.out.below hb)
 replace c0 := zB hb c0
 replace c1 := zB hb c1
 replace c2 := zB hb c2
 replace c3 := zB hb c3
 replace c4 := zB hb c4
 replace c5 := zB hb c5
 replace HB := zH (HB.out.trans (hb.mono HB.out.size))
 clear hb
 clear RL
 go_wp2_with fail
 refine (a_law _).mono ?_
 rintro e w11 ⟨rfl, hb⟩
 replace HAB := zH (HAB.out.below hb)
 replace c0 := zB hb c0
 replace c1 := zB hb c1
 replace c2 := zB hb c2
 replace c3 := zB hb c3
 replace c4 := zB hb c4
 replace c5 := zB hb c5
 replace HB := zH (HB.out.trans (hb.mono HB.out.size))
 clear hb
 go_wp2_with fail
 refine (many_law 10 (oneN tA) _ _ (HN.out _)).mono ?_
 rintro e w12 ⟨vm, rfl, hm, hb⟩
 replace HAB := zH (HAB.out.below hb)
 replace c0 := zB hb c0
 replace c1 := zB hb c1
 replace c2 := zB hb c2
 replace c3 := zB hb c3
 replace c4 := zB hb c4
 replace c5 := zB hb c5
 replace HB := zH (HB.out.trans (hb.mono HB.out.size))
 clear hb
 have HM := zH hm
 clear hm
 go_wp2_with fail
 refine (query_law (manyN 10 (oneN tA)) _ 200 _ HM.out).mono ?_
 rintro e w13 ⟨rfl, hb⟩
 replace HAB := zH (HAB.out.below hb)
 replace HM := zH (HM.out.below hb)
 replace c0 := zB hb c0
 replace c1 := zB hb c1
 replace c2 := zB hb c2
 replace c3 := zB hb c3
 replace c4 := zB hb c4
 replace c5 := zB hb c5
 replace HB := zH (HB.out.trans (hb.mono HB.out.size))
 clear hb
 go_wp2_with fail
 refine lit_many _ (G := fun W => Calls _ _ _ W _) fun w14 hb rl => ?_
 replace HAB := zH (HAB.out.below hb)
 replace HM := zH (HM.out.below hb)
 replace c0 := zB hb c0
 replace c1 := zB hb c1
 replace c2 := zB hb c2
 replace c3 := zB hb c3
 replace c4 := zB hb c4
 replace c5 := zB hb c5
 replace HB := zH (HB.out.trans (hb.mono HB.out.size))
 clear hb
 have RL := zH rl
 clear rl
 refine (found_law (manyN 10 (oneN tA)) _ 200 _ _ _ HM.out RL.out res_many (smalls_ok _ (by decide))).mono ?_
 rintro e w15 ⟨rfl, hb⟩
 replace HAB := zH (HAB.out.below hb)
 replace HM := zH (HM.out.below hb)
 replace RL := zH (RL.out.below hb)
 replace c0 := zB hb c0
 replace c1 := zB hb c1
 replace c2 := zB hb c2
 replace c3 := zB hb c3
 replace c4 := zB hb c4
 replace c5 := zB hb c5
 replace HB := zH (HB.out.trans (hb.mono HB.out.size))
 clear hb
 clear RL
 clear HM
 go_wp2_with fail
 refine (a_law _).mono ?_
 rintro e w16 ⟨rfl, hb⟩
 replace HAB := zH (HAB.out.below hb)
 replace c0 := zB hb c0
 replace c1 := zB hb c1
 replace c2 := zB hb c2
 replace c3 := zB hb c3
 replace c4 := zB hb c4
 replace c5 := zB hb c5
 replace HB := zH (HB.out.trans (hb.mono HB.out.size))
 clear hb
 go_wp2_with fail
 refine (one_law _ _ _ _).mono ?_
 rintro e w17 ⟨rfl, hb⟩
 replace HAB := zH (HAB.out.below hb)
 replace c0 := zB hb c0
 replace c1 := zB hb c1
 replace c2 := zB hb c2
 replace c3 := zB hb c3
 replace c4 := zB hb c4
 replace c5 := zB hb c5
 replace HB := zH (HB.out.trans (hb.mono HB.out.size))
 clear hb
 go_wp2_with fail
 refine (b_law _).mono ?_
 rintro e w18 ⟨rfl, hb⟩
 replace HAB := zH (HAB.out.below hb)
 replace c0 := zB hb c0
 replace c1 := zB hb c1
 replace c2 := zB hb c2
 replace c3 := zB hb c3
 replace c4 := zB hb c4
 replace c5 := zB hb c5
 replace HB := zH (HB.out.trans (hb.mono HB.out.size))
 clear hb
 go_wp2_with fail
 refine (lack_law 10 (oneN tA) (oneN tC) (oneN tB) _ _ _ _ (HN.out _) (HN.out _) (HN.out _)).mono ?_
 rintro e w19 ⟨vl, rfl, hl, hb⟩
 replace HAB := zH (HAB.out.below hb)
 replace c0 := zB hb c0
 replace c1 := zB hb c1
 replace c2 := zB hb c2
 replace c3 := zB hb c3
 replace c4 := zB hb c4
 replace c5 := zB hb c5
 replace HB := zH (HB.out.trans (hb.mono HB.out.size))
 clear hb
 have HL := zH hl
 clear hl
 go_wp2_with fail
 refine (query_law (lackN 10 (oneN tA) (oneN tC) (oneN tB)) _ 200 _ HL.out).mono ?_
 rintro e w20 ⟨rfl, hb⟩
 replace HAB := zH (HAB.out.below hb)
 replace HL := zH (HL.out.below hb)
 replace c0 := zB hb c0
 replace c1 := zB hb c1
 replace c2 := zB hb c2
 replace c3 := zB hb c3
 replace c4 := zB hb c4
 replace c5 := zB hb c5
 replace HB := zH (HB.out.trans (hb.mono HB.out.size))
 clear hb
 go_wp2_with fail
 refine lit_two _ (G := fun W => Calls _ _ _ W _) fun w21 hb rl => ?_
 replace HAB := zH (HAB.out.below hb)
 replace HL := zH (HL.out.below hb)
 replace c0 := zB hb c0
 replace c1 := zB hb c1
 replace c2 := zB hb c2
 replace c3 := zB hb c3
 replace c4 := zB hb c4
 replace c5 := zB hb c5
 replace HB := zH (HB.out.trans (hb.mono HB.out.size))
 clear hb
 have RL := zH rl
 clear rl
 refine (found_law (lackN 10 (oneN tA) (oneN tC) (oneN tB)) _ 200 _ _ _ HL.out RL.out res_lack (smalls_ok _ (by decide))).mono ?_
 rintro e w22 ⟨rfl, hb⟩
 replace HAB := zH (HAB.out.below hb)
 replace HL := zH (HL.out.below hb)
 replace RL := zH (RL.out.below hb)
 replace c0 := zB hb c0
 replace c1 := zB hb c1
 replace c2 := zB hb c2
 replace c3 := zB hb c3
 replace c4 := zB hb c4
 replace c5 := zB hb c5
 replace HB := zH (HB.out.trans (hb.mono HB.out.size))
 clear hb
 clear RL
 clear HL
 go_wp2_with fail
 refine (query_law abN _ 200 _ HAB.out).mono ?_
 rintro e w23 ⟨rfl, hb⟩
 replace HAB := zH (HAB.out.below hb)
 replace c0 := zB hb c0
 replace c1 := zB hb c1
 replace c2 := zB hb c2
 replace c3 := zB hb c3
 replace c4 := zB hb c4
 replace c5 := zB hb c5
 replace HB := zH (HB.out.trans (hb.mono HB.out.size))
 clear hb
 go_wp2_with fail
 refine (events_law _).mono ?_
 rintro e w24 ⟨be, rfl, he, hb⟩
 replace HAB := zH (HAB.out.below hb)
 replace c0 := zB hb c0
 replace c1 := zB hb c1
 replace c2 := zB hb c2
 replace c3 := zB hb c3
 replace c4 := zB hb c4
 replace c5 := zB hb c5
 replace HB := zH (HB.out.trans (hb.mono HB.out.size))
 clear hb
 have HE := zH he
 clear he
 go_wp2_with fail
 refine (pick_k be _ _ HE.out HAB.out).mono ?_
 rintro e w25 ⟨vp, rfl, hp, hb⟩
 replace HAB := zH (HAB.out.below hb)
 replace HE := zH (HE.out.below hb)
 replace c0 := zB hb c0
 replace c1 := zB hb c1
 replace c2 := zB hb c2
 replace c3 := zB hb c3
 replace c4 := zB hb c4
 replace c5 := zB hb c5
 replace HB := zH (HB.out.trans (hb.mono HB.out.size))
 clear hb
 have HP := zH hp
 clear hp
 clear HE
 go_wp2_with fail
 refine (a_law _).mono ?_
 rintro e w26 ⟨rfl, hb⟩
 replace HAB := zH (HAB.out.below hb)
 replace HP := zH (HP.out.below hb)
 replace c0 := zB hb c0
 replace c1 := zB hb c1
 replace c2 := zB hb c2
 replace c3 := zB hb c3
 replace c4 := zB hb c4
 replace c5 := zB hb c5
 replace HB := zH (HB.out.trans (hb.mono HB.out.size))
 clear hb
 go_wp2_with fail
 refine (many_law 4 (oneN tA) _ _ (HN.out _)).mono ?_
 rintro e w27 ⟨vm, rfl, hm, hb⟩
 replace HAB := zH (HAB.out.below hb)
 replace HP := zH (HP.out.below hb)
 replace c0 := zB hb c0
 replace c1 := zB hb c1
 replace c2 := zB hb c2
 replace c3 := zB hb c3
 replace c4 := zB hb c4
 replace c5 := zB hb c5
 replace HB := zH (HB.out.trans (hb.mono HB.out.size))
 clear hb
 have HM := zH hm
 clear hm
 go_wp2_with fail
 refine (query_law (manyN 4 (oneN tA)) _ 200 _ HM.out).mono ?_
 rintro e w28 ⟨rfl, hb⟩
 replace HAB := zH (HAB.out.below hb)
 replace HP := zH (HP.out.below hb)
 replace HM := zH (HM.out.below hb)
 replace c0 := zB hb c0
 replace c1 := zB hb c1
 replace c2 := zB hb c2
 replace c3 := zB hb c3
 replace c4 := zB hb c4
 replace c5 := zB hb c5
 replace HB := zH (HB.out.trans (hb.mono HB.out.size))
 clear hb
 go_wp2_with fail
 refine (events_law _).mono ?_
 rintro e w29 ⟨be, rfl, he, hb⟩
 replace HAB := zH (HAB.out.below hb)
 replace HP := zH (HP.out.below hb)
 replace HM := zH (HM.out.below hb)
 replace c0 := zB hb c0
 replace c1 := zB hb c1
 replace c2 := zB hb c2
 replace c3 := zB hb c3
 replace c4 := zB hb c4
 replace c5 := zB hb c5
 replace HB := zH (HB.out.trans (hb.mono HB.out.size))
 clear hb
 have HE := zH he
 clear he
 go_wp2_with fail
 refine lit_02 _ (G := fun W => Calls _ _ _ W _) fun w30 hb rl => ?_
 replace HAB := zH (HAB.out.below hb)
 replace HP := zH (HP.out.below hb)
 replace HM := zH (HM.out.below hb)
 replace HE := zH (HE.out.below hb)
 replace c0 := zB hb c0
 replace c1 := zB hb c1
 replace c2 := zB hb c2
 replace c3 := zB hb c3
 replace c4 := zB hb c4
 replace c5 := zB hb c5
 replace HB := zH (HB.out.trans (hb.mono HB.out.size))
 clear hb
 have RL := zH rl
 clear rl
 refine (is_k4 be _ _ _ HE.out RL.out HM.out).mono ?_
 rintro e w31 ⟨rfl, hb⟩
 replace HAB := zH (HAB.out.below hb)
 replace HP := zH (HP.out.below hb)
 replace HM := zH (HM.out.below hb)
 replace HE := zH (HE.out.below hb)
 replace RL := zH (RL.out.below hb)
 replace c0 := zB hb c0
 replace c1 := zB hb c1
 replace c2 := zB hb c2
 replace c3 := zB hb c3
 replace c4 := zB hb c4
 replace c5 := zB hb c5
 replace HB := zH (HB.out.trans (hb.mono HB.out.size))
 clear hb
 clear RL
 clear HE
 clear HM
 go_wp2_with fail
 refine (a_law _).mono ?_
 rintro e w32 ⟨rfl, hb⟩
 replace HAB := zH (HAB.out.below hb)
 replace HP := zH (HP.out.below hb)
 replace c0 := zB hb c0
 replace c1 := zB hb c1
 replace c2 := zB hb c2
 replace c3 := zB hb c3
 replace c4 := zB hb c4
 replace c5 := zB hb c5
 replace HB := zH (HB.out.trans (hb.mono HB.out.size))
 clear hb
 go_wp2_with fail
 refine (many_law 5 (oneN tA) _ _ (HN.out _)).mono ?_
 rintro e w33 ⟨vm, rfl, hm, hb⟩
 replace HAB := zH (HAB.out.below hb)
 replace HP := zH (HP.out.below hb)
 replace c0 := zB hb c0
 replace c1 := zB hb c1
 replace c2 := zB hb c2
 replace c3 := zB hb c3
 replace c4 := zB hb c4
 replace c5 := zB hb c5
 replace HB := zH (HB.out.trans (hb.mono HB.out.size))
 clear hb
 have HM := zH hm
 clear hm
 go_wp2_with fail
 refine (query_law (manyN 5 (oneN tA)) _ 200 _ HM.out).mono ?_
 rintro e w34 ⟨rfl, hb⟩
 replace HAB := zH (HAB.out.below hb)
 replace HP := zH (HP.out.below hb)
 replace HM := zH (HM.out.below hb)
 replace c0 := zB hb c0
 replace c1 := zB hb c1
 replace c2 := zB hb c2
 replace c3 := zB hb c3
 replace c4 := zB hb c4
 replace c5 := zB hb c5
 replace HB := zH (HB.out.trans (hb.mono HB.out.size))
 clear hb
 go_wp2_with fail
 refine (events_law _).mono ?_
 rintro e w35 ⟨be, rfl, he, hb⟩
 replace HAB := zH (HAB.out.below hb)
 replace HP := zH (HP.out.below hb)
 replace HM := zH (HM.out.below hb)
 replace c0 := zB hb c0
 replace c1 := zB hb c1
 replace c2 := zB hb c2
 replace c3 := zB hb c3
 replace c4 := zB hb c4
 replace c5 := zB hb c5
 replace HB := zH (HB.out.trans (hb.mono HB.out.size))
 clear hb
 have HE := zH he
 clear he
 go_wp2_with fail
 refine lit_02 _ (G := fun W => Calls _ _ _ W _) fun w36 hb rl => ?_
 replace HAB := zH (HAB.out.below hb)
 replace HP := zH (HP.out.below hb)
 replace HM := zH (HM.out.below hb)
 replace HE := zH (HE.out.below hb)
 replace c0 := zB hb c0
 replace c1 := zB hb c1
 replace c2 := zB hb c2
 replace c3 := zB hb c3
 replace c4 := zB hb c4
 replace c5 := zB hb c5
 replace HB := zH (HB.out.trans (hb.mono HB.out.size))
 clear hb
 have RL := zH rl
 clear rl
 refine (is_k5 be _ _ _ HE.out RL.out HM.out).mono ?_
 rintro e w37 ⟨rfl, hb⟩
 replace HAB := zH (HAB.out.below hb)
 replace HP := zH (HP.out.below hb)
 replace HM := zH (HM.out.below hb)
 replace HE := zH (HE.out.below hb)
 replace RL := zH (RL.out.below hb)
 replace c0 := zB hb c0
 replace c1 := zB hb c1
 replace c2 := zB hb c2
 replace c3 := zB hb c3
 replace c4 := zB hb c4
 replace c5 := zB hb c5
 replace HB := zH (HB.out.trans (hb.mono HB.out.size))
 clear hb
 clear RL
 clear HE
 clear HM
 go_wp2_with fail
 refine lit_two _ (G := fun W => Calls _ _ _ W _) fun w38 hb rl => ?_
 replace HAB := zH (HAB.out.below hb)
 replace HP := zH (HP.out.below hb)
 replace c0 := zB hb c0
 replace c1 := zB hb c1
 replace c2 := zB hb c2
 replace c3 := zB hb c3
 replace c4 := zB hb c4
 replace c5 := zB hb c5
 replace HB := zH (HB.out.trans (hb.mono HB.out.size))
 clear hb
 have RL := zH rl
 clear rl
 refine (same_k _ _ _ _ HP.out RL.out (smalls_ok _ (by decide))).mono ?_
 rintro e w39 ⟨rfl, hb⟩
 replace HAB := zH (HAB.out.below hb)
 replace HP := zH (HP.out.below hb)
 replace RL := zH (RL.out.below hb)
 replace c0 := zB hb c0
 replace c1 := zB hb c1
 replace c2 := zB hb c2
 replace c3 := zB hb c3
 replace c4 := zB hb c4
 replace c5 := zB hb c5
 replace HB := zH (HB.out.trans (hb.mono HB.out.size))
 clear hb
 clear RL
 clear HP
 go_wp2_with fail
 refine (many_law 3 abN _ _ HAB.out).mono ?_
 rintro e w40 ⟨vm, rfl, hm, hb⟩
 replace HAB := zH (HAB.out.below hb)
 replace c0 := zB hb c0
 replace c1 := zB hb c1
 replace c2 := zB hb c2
 replace c3 := zB hb c3
 replace c4 := zB hb c4
 replace c5 := zB hb c5
 replace HB := zH (HB.out.trans (hb.mono HB.out.size))
 clear hb
 have HM := zH hm
 clear hm
 go_wp2_with fail
 refine (query_law (manyN 3 abN) _ 200 _ HM.out).mono ?_
 rintro e w41 ⟨rfl, hb⟩
 replace HAB := zH (HAB.out.below hb)
 replace HM := zH (HM.out.below hb)
 replace c0 := zB hb c0
 replace c1 := zB hb c1
 replace c2 := zB hb c2
 replace c3 := zB hb c3
 replace c4 := zB hb c4
 replace c5 := zB hb c5
 replace HB := zH (HB.out.trans (hb.mono HB.out.size))
 clear hb
 go_wp2_with fail
 refine (auto_k _ _ HM.out).mono ?_
 rintro e w42 ⟨v1, v2, v3, v4, rfl, hau, hb⟩
 replace HAB := zH (HAB.out.below hb)
 replace HM := zH (HM.out.below hb)
 replace c0 := zB hb c0
 replace c1 := zB hb c1
 replace c2 := zB hb c2
 replace c3 := zB hb c3
 replace c4 := zB hb c4
 replace c5 := zB hb c5
 replace HB := zH (HB.out.trans (hb.mono HB.out.size))
 clear hb
 obtain ⟨a1, k1, rfl⟩ : ∃ a c, v1 = .slice a auK.tests.length c := by obtain ⟨_, a, c, rfl, _⟩ := hau.tests; exact ⟨a, c, rfl⟩
 obtain ⟨a2, k2, rfl⟩ : ∃ a c, v2 = .slice a auK.first.length c := by obtain ⟨_, a, c, rfl, _⟩ := hau.first; exact ⟨a, c, rfl⟩
 obtain ⟨a3, k3, rfl⟩ : ∃ a c, v3 = .slice a auK.last.length c := by obtain ⟨_, a, c, rfl, _⟩ := hau.last; exact ⟨a, c, rfl⟩
 obtain ⟨a4, k4, rfl⟩ : ∃ a c, v4 = .slice a auK.follow.length c := by obtain ⟨_, a, c, rfl, _⟩ := hau.follow; exact ⟨a, c, rfl⟩
 have HAU := zH hau
 clear hau
 clear HM
 clear HAB
 clear c0
 clear c1
 clear c2
 clear c3
 clear c4
 clear c5
 go_wp2_with fail
 refine zX (G := fun W => Code.wp _ _ _ _ W) w42 _ _ fun w43 hb hz hx => ?_
 have d0 := zC hx 0
 have d1 := zC hx 1
 have d2 := zC hx 2
 have d3 := zC hx 3
 clear hx hz
 replace HAU := zH (HAU.out.below hb)
 replace HB := zH (HB.out.trans (hb.mono HB.out.size))
 clear hb
 have HS := zH (show ∀ W, Below w43.heap.size w43 W → W.cell? ⟨w42.heap.size, 0, none⟩ = some (.slice a1 auK.tests.length k1) ∧ W.cell? ⟨w42.heap.size, 1, none⟩ = some (.slice a2 auK.first.length k2) ∧ W.cell? ⟨w42.heap.size, 2, none⟩ = some (.slice a3 auK.last.length k3) ∧ W.cell? ⟨w42.heap.size, 3, none⟩ = some (.slice a4 auK.follow.length k4) from fun W hW => ⟨zB hW d0, zB hW d1, zB hW d2, zB hW d3⟩)
 have EN1 := zH (enters_of Tryz.func69 (by kernel_rfl) rfl)
 have EN2 := zH (enters_of Tryz.func18 (by kernel_rfl) rfl)
 clear d0 d1 d2 d3
 refine zR 8 (S := fun W => W.cell? ⟨w42.heap.size, 0, none⟩ = some (.slice a1 auK.tests.length k1) ∧ W.cell? ⟨w42.heap.size, 1, none⟩ = some (.slice a2 auK.first.length k2) ∧ W.cell? ⟨w42.heap.size, 2, none⟩ = some (.slice a3 auK.last.length k3) ∧ W.cell? ⟨w42.heap.size, 3, none⟩ = some (.slice a4 auK.follow.length k4)) (by kernel_rfl) (by kernel_rfl) rfl (HS.out _ (Below.refl _ _).drew) (fun hHeld => ?_)
 try simp only [List.reduceReplicate]
 repeat (first
  | refine takeA [] (h := ?_)
  | (refine callA [] (args := ?_) (R := ?_) (he := ?_) (hc := ?_) (hargs := ?_) (h := ?_)
     rotate_left 2
     first | (exact EN1.out; exact events_law _; rfl; rintro e wz ⟨be, rfl, he, hbz⟩; have hbz' : Below w43.heap.size w43 wz := (Below.refl _ _).drew.trans hbz; refine .inl ⟨_, rfl, HS.out _ hbz', fun hHeld => ?_⟩; have HBZ := zH (zA hbz' he); clear hbz hbz' he) | (exact EN2.out; exact run_k be _ _ _ _ _ (HAU.out.below HBZ.out.1) HBZ.out.2; rfl; rintro e wy ⟨vr, rfl, hown, hby⟩; have hby' : Below w43.heap.size w43 wy := HBZ.out.1.trans (hby.mono HBZ.out.1.size); refine .inl ⟨_, rfl, HS.out _ hby', fun hHeld => ?_⟩; have HBY := zH (zA hby' hown); clear hby hby' hown)
     refine normA (h := ?_)))
 refine wpAnyH_done (by kernel_rfl) ?_ _
 clear hHeld
 obtain ⟨hb, hr⟩ := HBY.out
 obtain ⟨d0, d1, d2, d3⟩ := HS.out _ hb
 clear HBY HBZ HS EN1 EN2
 replace HAU := zH (HAU.out.below hb)
 replace HB := zH (HB.out.trans (hb.mono HB.out.size))
 clear hb
 have HRUN := zH hr
 clear hr
 go_wp2_with fail
 refine (a_lit _).mono ?_
 rintro e w44 ⟨rfl, hb⟩
 replace HAU := zH (HAU.out.below hb)
 replace HRUN := zH (HRUN.out.below hb)
 replace d0 := zB hb d0
 replace d1 := zB hb d1
 replace d2 := zB hb d2
 replace d3 := zB hb d3
 replace HB := zH (HB.out.trans (hb.mono HB.out.size))
 clear hb
 have hfa : (Instr.field 27 (.agg #[.int .i64 1, .int .i64 0, .int .i64 0, .int .i64 9, .int .i64 0, .slice none 0 0]) 1).run Tryz.prog w44 = .ok (.agg #[.int .i64 0, .int .i64 0, .int .i64 9]) w44 := by kernel_rfl
 go_wp2_with fail
 refine (b_lit _).mono ?_
 rintro e w45 ⟨rfl, hb⟩
 replace HAU := zH (HAU.out.below hb)
 replace HRUN := zH (HRUN.out.below hb)
 replace d0 := zB hb d0
 replace d1 := zB hb d1
 replace d2 := zB hb d2
 replace d3 := zB hb d3
 replace HB := zH (HB.out.trans (hb.mono HB.out.size))
 clear hb
 have hfb : (Instr.field 27 (.agg #[.int .i64 1, .int .i64 1, .int .i64 5, .int .i64 5, .int .i64 0, .slice none 0 0]) 1).run Tryz.prog w45 = .ok (.agg #[.int .i64 1, .int .i64 5, .int .i64 5]) w45 := by kernel_rfl
 go_upto_region 12 with (fail)
 refine lit_auto w45 (G := fun W => Code.wp _ _ _ _ W) fun w46 hb hau hx => ?_
 have g0 := zC hx 0
 have g1 := zC hx 1
 have g2 := zC hx 2
 have g3 := zC hx 3
 clear hx hfa hfb
 replace HAU := zH (HAU.out.below hb)
 replace HRUN := zH (HRUN.out.below hb)
 replace d0 := zB hb d0
 replace d1 := zB hb d1
 replace d2 := zB hb d2
 replace d3 := zB hb d3
 replace HB := zH (HB.out.trans (hb.mono HB.out.size))
 clear hb
 have HLIT := zH hau
 clear hau
 go_wp2_with fail
 refine (sameAuto_k _ _ _ _ _ _ _ _ _ HAU.out HLIT.out).mono ?_
 rintro e w47 ⟨rfl, hb⟩
 replace HAU := zH (HAU.out.below hb)
 replace HRUN := zH (HRUN.out.below hb)
 replace HLIT := zH (HLIT.out.below hb)
 replace d0 := zB hb d0
 replace d1 := zB hb d1
 replace d2 := zB hb d2
 replace d3 := zB hb d3
 replace g0 := zB hb g0
 replace g1 := zB hb g1
 replace g2 := zB hb g2
 replace g3 := zB hb g3
 replace HB := zH (HB.out.trans (hb.mono HB.out.size))
 clear hb
 clear HAU
 clear HLIT
 clear d0
 clear d1
 clear d2
 clear d3
 clear g0
 clear g1
 clear g2
 clear g3
 go_wp2_with fail
 refine lit_four _ (G := fun W => Calls _ _ _ W _) fun w48 hb rl => ?_
 replace HRUN := zH (HRUN.out.below hb)
 replace HB := zH (HB.out.trans (hb.mono HB.out.size))
 clear hb
 have RL := zH rl
 clear rl
 refine (same_k _ _ _ _ HRUN.out RL.out (smalls_ok _ (by decide))).mono ?_
 rintro e w49 ⟨rfl, hb⟩
 replace HRUN := zH (HRUN.out.below hb)
 replace RL := zH (RL.out.below hb)
 replace HB := zH (HB.out.trans (hb.mono HB.out.size))
 clear hb
 go_wp2
 go_ret
 exact ⟨rfl, HB.out⟩
end
end Go.Proofs.YtgiploddoffmjaaGreat
