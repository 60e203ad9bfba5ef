/- My texts, joined: W91. -/
import Derived.Below
import Derived.BigQuiet
import Derived.Deep.AppendLies
import Derived.Deep.DeepCutAuto
import Derived.Deep.QuietTactic
import Derived.Deep.RegionHeld
import Derived.Deep.RegionHeld3
import Derived.Deep.RegionLaw
import Derived.Defers
import Derived.Ground.Names2Prog
import Derived.Ground.Names8Prog
import Derived.Ground.SlsfProg
import Derived.Handy
import Derived.KernelRfl
import Derived.Laws.AppendOwn
import Derived.Laws.AppendOwnNone
import Derived.Laws.CopyRow
import Derived.Laws.Pointers
import Derived.Laws.StructEq
import Derived.Lib.Hide
import Derived.Lib.Overlaps
import Derived.LoopIn
import Derived.LoopN
import Derived.LoopNIn
import Derived.LoopTactic
import Derived.MapKept
import Derived.Maps.AppendAt
import Derived.Maps.OwnOps
import Derived.Maps.RangeRun
import Derived.Maps.RangeWalk
import Derived.Outline
import Derived.OwnWalk
import Derived.OwnWalkIn
import Derived.RangeFuncBound
import Derived.RangeFuncCalls
import Derived.RangeFuncLeaves
import Derived.RangeFuncNested
import Derived.Recover
import Derived.Shelf.Abstract
import Derived.Shelf.RegionOpen
import Derived.Shelf.SlGeneric
import Derived.Shelf.SlLaysF0
import Derived.Shelf.SlSortCmp.HeapSort1
import Derived.Shelf.SlSortCmp.Insertion
import Derived.Shelf.SlSortCmp.Insertion1
import Derived.Shelf.SlSortCmp.Median1
import Derived.Shelf.SlSortCmp.NoneTotal
import Derived.Shelf.SlSortCmp.PartialInsertion1
import Derived.Shelf.SlSortCmp.Partition1
import Derived.Shelf.SlSortCmp.PartitionEqual1
import Derived.Shelf.SlSortCmp.Pdq1
import Derived.Shelf.SlSortCmp.Pivot1
import Derived.Shelf.SlSortCmp.ReverseRange1
import Derived.Shelf.SlSortCmp.SiftDown1
import Derived.Shelf.SlSortCmp.Whole1
import Derived.Shelf.SlSortCmp.WholeK
import Derived.Shelf.Slices.In.SortNone
import Derived.Shelf.Small.Bits
import Derived.Shelf.Sort.Plain
import Derived.Shelf.Spec.SlicesGrow
import Derived.TacticsInMore
import Derived.Test.YtgiploddoffmjaaGreatProg
import Derived.WalkKit
import Derived.WalkLawsBesides
import Derived.WalkSpells
import Derived.Test.YtgiploddoffmjaaGreatM0
import Derived.Test.YtgiploddoffmjaaGreatM1
import Derived.Test.YtgiploddoffmjaaGreatM2
import Derived.Test.YtgiploddoffmjaaGreatM3
import Derived.Test.YtgiploddoffmjaaGreatM4
import Derived.Test.YtgiploddoffmjaaGreatM5
import Derived.Test.YtgiploddoffmjaaGreatM6
import Derived.Test.YtgiploddoffmjaaGreatM8
import Derived.Test.YtgiploddoffmjaaGreatM9
import Derived.Test.YtgiploddoffmjaaGreatM10
import Derived.Test.YtgiploddoffmjaaGreatM11
import Derived.Test.YtgiploddoffmjaaGreatM12
import Derived.Test.YtgiploddoffmjaaGreatM13
import Derived.Test.YtgiploddoffmjaaGreatM19
import Derived.Test.YtgiploddoffmjaaGreatM20
import Derived.Test.YtgiploddoffmjaaGreatM21
import Derived.Test.YtgiploddoffmjaaGreatM22
import Derived.Test.YtgiploddoffmjaaGreatM24
import Derived.Test.YtgiploddoffmjaaGreatM25
import Derived.Test.YtgiploddoffmjaaGreatXMatchMachine1
import Derived.Test.YtgiploddoffmjaaGreatXMatchMachine2
import Derived.Test.YtgiploddoffmjaaGreatXMatchMachine3
import Derived.Test.YtgiploddoffmjaaGreatXMatchMachine4
import Derived.Test.YtgiploddoffmjaaGreatXMatchMachine6
set_option linter.unusedVariables false
set_option linter.unusedSimpArgs false
set_option linter.unusedSectionVars false
set_option maxRecDepth 10000
namespace Go.Proofs.YtgiploddoffmjaaGreat
section
open Go.RowKit Go.Shelf
set_option maxRecDepth 1000000 in
set_option maxHeartbeats 32000000 in
theorem refFormed_any (v1 v2 v3 v4 : Value) (au : Auto) (srcs : Int) (w : World) (ha : AutoAt w v1 v2 v3 v4 au) :
 Calls Tryz.prog 23 #[.agg #[v1, v2, v3, v4], .int .i64 srcs] w fun e w' => e = .returned (.bool (inP srcs 1 4 && isAutoP srcs au)) ∧ Below w.heap.size w w' := by
 obtain ⟨ts, fs, ls, es⟩ := au
 obtain ⟨a1, c1, rfl⟩ : ∃ a c, v1 = .slice a ts.length c := by obtain ⟨_, a, c, rfl, _⟩ := ha.tests; exact ⟨a, c, rfl⟩
 obtain ⟨a2, c2, rfl⟩ : ∃ a c, v2 = .slice a fs.length c := by obtain ⟨_, a, c, rfl, _⟩ := ha.first; exact ⟨a, c, rfl⟩
 obtain ⟨a3, c3, rfl⟩ : ∃ a c, v3 = .slice a ls.length c := by obtain ⟨_, a, c, rfl, _⟩ := ha.last; exact ⟨a, c, rfl⟩
 obtain ⟨a4, c4, rfl⟩ : ∃ a c, v4 = .slice a es.length c := by obtain ⟨_, a, c, rfl, _⟩ := ha.follow; exact ⟨a, c, rfl⟩
 have hl1 := ha.tests.1
 have hl4 := ha.follow.1
 have HA := zH ha
 clear ha
 obtain ⟨r, hr⟩ : ∃ r, r = (inP srcs 1 4 && isAutoP srcs ⟨ts, fs, ls, es⟩) := ⟨_, rfl⟩
 rw [← hr]
 replace hr : r = (inP srcs 1 4 && (decide (ts.length ≤ 12) && !(ts.any fun t => !isTestP t srcs) && placesFrom ts.length none fs && placesFrom ts.length none ls && edgesFrom srcs ts.length none es)) := hr
 have hin := fun W => refIn_any srcs 1 4 W
 obtain ⟨s1, hs1⟩ : ∃ b, b = inP srcs 1 4 := ⟨_, rfl⟩
 rw [← hs1] at hr hin
 have hP := fun W (h : Below w.heap.size w W) => refNumbers_any _ fs ts.length W (HA.out.first.below h)
 have hQ := fun W (h : Below w.heap.size w W) => refNumbers_any _ ls ts.length W (HA.out.last.below h)
 obtain ⟨p1, hp1⟩ : ∃ b, b = placesFrom ts.length none fs := ⟨_, rfl⟩
 obtain ⟨p2, hp2⟩ : ∃ b, b = placesFrom ts.length none ls := ⟨_, rfl⟩
 rw [← hp1] at hP hr
 rw [← hp2] at hQ hr
 have HIN := zH hin
 have HP := zH hP
 have HQ := zH hQ
 have HR := zH hr
 have HS1 := zH hs1
 clear hr hin hP hQ hp1 hp2 hs1
 have hlen : ((12 : Int) < (ts.length : Int)) ↔ ¬ ts.length ≤ 12 := by omega
 have HLEN := zH hlen
 clear hlen
 go_enter Tryz.func23, Tryz.ntmps23
 go_wp2_with fail
 refine zX (G := fun W => Calls _ _ _ W _) w _ _ fun W1 hb1 hz1 hx1 => ?_
 have HC := zH (zA hb1 (show ∀ W, Below W1.heap.size W1 W → W.cell? ⟨w.heap.size, 0, none⟩ = some (.slice a1 ts.length c1) ∧ W.cell? ⟨w.heap.size, 1, none⟩ = some (.slice a2 fs.length c2) ∧ W.cell? ⟨w.heap.size, 2, none⟩ = some (.slice a3 ls.length c3) ∧ W.cell? ⟨w.heap.size, 3, none⟩ = some (.slice a4 es.length c4) from fun W hW => ⟨zB hW (zC hx1 0), zB hW (zC hx1 1), zB hW (zC hx1 2), zB hW (zC hx1 3)⟩))
 clear hb1 hz1 hx1
 refine (HIN.out W1).mono ?_
 rintro e w2 ⟨rfl, rfl⟩
 obtain ⟨d0, d1, d2, d3⟩ := HC.out.2 W1 (Below.refl _ _)
 cases s1 with
 | false =>
  have hr : r = false := by rw [HR.out]; rfl
  subst hr
  go_wp2_with fail
  go_ret
  exact ⟨rfl, HC.out.1⟩
 | true =>
 by_cases h12 : ts.length ≤ 12
 rotate_left
 ·have hr : r = false := by rw [HR.out, decide_eq_false h12]; rfl
  have g12 : decide ((12 : Int) < (ts.length : Int)) = true := decide_eq_true (HLEN.out.2 h12)
  clear h12
  subst hr
  go_wp2_with fail
  go_ret
  exact ⟨rfl, HC.out.1⟩
 have g12 : decide ((12 : Int) < (ts.length : Int)) = false := decide_eq_false fun h => HLEN.out.1 h h12
 replace HR := zH (show r = (!(ts.any fun t => !isTestP t srcs) && p1 && p2 && edgesFrom srcs ts.length none es) by rw [HR.out, decide_eq_true h12]; simp)
 have HS := zH (show 1 ≤ srcs ∧ srcs ≤ 4 by have := HS1.out; unfold inP at this; simp only [eq_comm (a := true), Bool.and_eq_true, decide_eq_true_eq] at this; exact this)
 have H12 := zH h12
 clear h12 HLEN HS1 HIN
 go_wp2_with fail
 refine (HP.out W1 HC.out.1).mono ?_
 rintro e w3 ⟨rfl, hb3⟩
 have H3 := zH hb3
 clear d0 d1 d2 d3 hb3
 obtain ⟨d0, d1, d2, d3⟩ := HC.out.2 w3 H3.out
 cases p1 with
 | false =>
  have hr : r = false := by rw [HR.out]; simp
  subst hr
  go_wp2_with fail
  go_ret
  exact ⟨rfl, HC.out.1.trans (H3.out.mono HC.out.1.size)⟩
 | true =>
 go_wp2_with fail
 refine (HQ.out w3 (HC.out.1.trans (H3.out.mono HC.out.1.size))).mono ?_
 rintro e w4 ⟨rfl, hb4⟩
 have H4 := zH (H3.out.trans (hb4.mono H3.out.size))
 clear d0 d1 d2 d3 hb4
 obtain ⟨d0, d1, d2, d3⟩ := HC.out.2 w4 H4.out
 cases p2 with
 | false =>
  have hr : r = false := by rw [HR.out]; simp
  subst hr
  go_wp2_with fail
  go_ret
  exact ⟨rfl, HC.out.1.trans (H4.out.mono HC.out.1.size)⟩
 | true =>
 replace HR := zH (show r = (!(ts.any fun t => !isTestP t srcs) && edgesFrom srcs ts.length none es) by rw [HR.out]; simp)
 clear HP HQ H3 g12
 go_wp2
 go_loopw [5] (fun i W => ∃ (k : Nat), i = .int .i64 k ∧ k ≤ ts.length ∧ (∀ (j : Nat) t, j < k → ts[j]? = some t → isTestP t srcs = true) ∧ Below W1.heap.size W1 W) (fun i _ => ts.length - (intOf i).toNat)
 case atStart => exact ⟨0, rfl, by omega, fun j t h => by omega, H4.out⟩
 case round =>
  obtain ⟨k, rfl, hnl, hgood, hB⟩ := hrel
  clear d0 d1 d2 d3
  obtain ⟨d0, d1, d2, d3⟩ := HC.out.2 wr hB
  by_cases hlt : k < ts.length
  ·have hx := List.getElem?_eq_getElem hlt
   generalize ts[k] = x at hx
   obtain ⟨s0, lo, hi⟩ := x
   obtain ⟨b, off, rfl, hbl, hc⟩ := rd_at (HA.out.tests.below (HC.out.1.trans (hB.mono HC.out.1.size))) hx
   have q0 : wr.cell? ⟨b, off + k * 3, none⟩ = some (.int .i64 s0) := hc 0 _ rfl
   have q1 := hc 1 _ rfl
   have q2 := hc 2 _ rfl
   have n1 : (k : Int) < (ts.length : Int) := by omega
   have hT := fun W => refTest_any ⟨s0, lo, hi⟩ srcs HS.out W
   obtain ⟨b4, hb4⟩ : ∃ b, b = isTestP ⟨s0, lo, hi⟩ srcs := ⟨_, rfl⟩
   rw [← hb4] at hT
   have HT := zH hT
   have HG := zH (zA hgood (zA hB (zA hx hb4)))
   clear hgood hB hc hx hT hb4
   cases b4 with
   | false =>
    have hr : r = false := by
     rw [HR.out, show (ts.any fun t => !isTestP t srcs) = true from List.any_eq_true.2 ⟨_, List.mem_of_getElem? HG.out.2.2.1, by rw [← HG.out.2.2.2]; rfl⟩]; rfl
    subst hr
    go_wp2_with (go_at_call 101; refine (HT.out _).mono ?_; rintro e w9 ⟨rfl, hb9⟩)
    go_ret
    exact ⟨rfl, HC.out.1.trans ((HG.out.2.1.trans (hb9.mono HG.out.2.1.size)).mono HC.out.1.size)⟩
   | true =>
    go_wp2_with (go_at_call 101; refine (HT.out _).mono ?_; rintro e w9 ⟨rfl, hb9⟩; have H9 := zH hb9; clear hb9)
    go_roundw
    case rel =>
     refine ⟨k + 1, by go_num, by omega, fun j t hj ht => ?_, HG.out.2.1.trans (H9.out.mono HG.out.2.1.size)⟩
     by_cases hjk : j < k
     ·exact HG.out.1 j t hjk ht
     ·obtain rfl : j = k := by omega
      rw [HG.out.2.2.1] at ht; injection ht with ht; rw [← ht]; exact HG.out.2.2.2.symm
    case measure => simp [intOf]; omega
  obtain rfl : k = ts.length := by omega
  replace HR := zH (show r = edgesFrom srcs ts.length none es by
   rw [HR.out, show (ts.any fun t => !isTestP t srcs) = false from List.any_eq_false.2 fun t ht => by
    obtain ⟨j, hj, e⟩ := List.getElem_of_mem ht
    rw [hgood j t hj (by rw [List.getElem?_eq_getElem hj, e])]; decide]; rfl)
  have HT4 := zH hB
  have hsw : IntKind.i64.wrap ((ts.length : Int) - 1) = ts.length - 1 := Go.IntWalk.i64_in _ (by omega)
  clear hgood hB H4
  go_wp2
  go_loopw [6] (fun i W => ∃ (k : Nat), i = .int .i64 k ∧ k ≤ es.length ∧ edgesFrom srcs ts.length (prevAt es k) (es.drop k) = r ∧ (∀ u, prevAt es k = some u → edgeGood srcs ts.length u = true) ∧ Below W1.heap.size W1 W) (fun i _ => es.length - (intOf i).toNat)
  case atStart => exact ⟨0, rfl, by omega, HR.out.symm, fun u h => (by cases h), HT4.out⟩
  case round =>
   obtain ⟨k, rfl, hnl, hi, hpv, hB⟩ := hrel
   obtain ⟨wA, hA⟩ : ∃ W, W = wr := ⟨_, rfl⟩
   subst hA
   clear d0 d1 d2 d3
   obtain ⟨d0, d1, d2, d3⟩ := HC.out.2 wA hB
   by_cases hlt : k < es.length
   rotate_left
   ·obtain rfl : k = es.length := by omega
    have hr : r = true := by rw [← hi, List.drop_length]; cases prevAt es es.length <;> rfl
    subst hr
    have HX := zH (HC.out.1.trans (hB.mono HC.out.1.size))
    clear hi hB hpv
    go_wp2
    go_ret
    exact ⟨rfl, HX.out⟩
   have hx := List.getElem?_eq_getElem hlt
   generalize es[k] = x at hx
   obtain ⟨ef, et, en, el, e0, e1, e2⟩ := x
   obtain ⟨b, off, rfl, hbl, hc⟩ := rd_at (HA.out.follow.below (HC.out.1.trans (hB.mono HC.out.1.size))) hx
   have q0 : wA.cell? ⟨b, off + k * 7, none⟩ = some (.int .i64 ef) := hc 0 _ rfl
   have q1 := hc 1 _ rfl
   have q2 := hc 2 _ rfl
   have q3 := hc 3 _ rfl
   have q4 := hc 4 _ rfl
   have q5 := hc 5 _ rfl
   have q6 := hc 6 _ rfl
   have n1 : (k : Int) < (es.length : Int) := by omega
   have HX := zH (zA hi (zA hpv (zA hx hB)))
   clear hi hpv hx hB hc
   go_upto_region 12 with (fail)
   refine zX (G := fun W => Code.wp _ _ _ _ W) wA _ _ fun w5 hb5 hz5 hx5 => ?_
   clear d0 d1 d2 d3 q0 q1 q2 q3 q4 q5 q6
   obtain ⟨hi, hpv, hx, hB⟩ := HX.out
   obtain ⟨b1, hb1⟩ : ∃ b, b = inP ef 0 (ts.length - 1) := ⟨_, rfl⟩
   obtain ⟨b2, hb2⟩ : ∃ b, b = inP et 0 (ts.length - 1) := ⟨_, rfl⟩
   obtain ⟨b3, hb3⟩ : ∃ b, b = inP en 0 200 := ⟨_, rfl⟩
   obtain ⟨b4, hb4⟩ : ∃ b, b = isTestP ⟨e0, e1, e2⟩ srcs := ⟨_, rfl⟩
   obtain ⟨b6, hb6⟩ : ∃ b, b = decide ((⟨e0, e1, e2⟩ : Test) = ⟨0, 0, 0⟩) := ⟨_, rfl⟩
   have hV1 := fun W => refIn_any ef 0 (ts.length - 1) W
   have hV2 := fun W => refIn_any et 0 (ts.length - 1) W
   have hV3 := fun W => refIn_any en 0 200 W
   have hT := fun W => refTest_any ⟨e0, e1, e2⟩ srcs HS.out W
   have hnq := fun W => neqTest0 e0 e1 e2 0 0 0 W
   have hgd : edgeGood srcs ts.length ⟨ef, et, en, el, ⟨e0, e1, e2⟩⟩ = (b1 && b2 && b3 && (if el then b4 else b6)) := by rw [hb1, hb2, hb3, hb4, hb6]; rfl
   rw [← hb1] at hV1
   rw [← hb2] at hV2
   rw [← hb3] at hV3
   rw [← hb4] at hT
   simp only [← hb6] at hnq
   have HV1 := zH hV1
   have HV2 := zH hV2
   have HV3 := zH hV3
   have HT := zH hT
   have HNQ := zH hnq
   have hdr := edges_drop (srcs := srcs) (n := ts.length) hx
   rw [hi] at hdr
   have HDR0 := zH hdr
   have HS5 := zH (show ∀ W, Below w5.heap.size w5 W → W.cell? ⟨wA.heap.size, 0, none⟩ = some (.int .i64 ef) ∧ W.cell? ⟨wA.heap.size, 1, none⟩ = some (.int .i64 et) ∧ W.cell? ⟨wA.heap.size, 2, none⟩ = some (.int .i64 en) ∧ W.cell? ⟨wA.heap.size, 3, none⟩ = some (.bool el) ∧ W.cell? ⟨wA.heap.size, 4, none⟩ = some (.int .i64 e0) ∧ W.cell? ⟨wA.heap.size, 5, none⟩ = some (.int .i64 e1) ∧ W.cell? ⟨wA.heap.size, 6, none⟩ = some (.int .i64 e2) ∧ W.cell? ⟨w.heap.size, 0, none⟩ = some (.slice a1 ts.length c1) ∧ W.cell? ⟨w.heap.size, 3, none⟩ = some (.slice (some ⟨b, off, none⟩) es.length c4) from fun W hW => by
    obtain ⟨g0, g1, g2, g3⟩ := HC.out.2 W (hB.trans ((hb5.trans (hW.mono hb5.size)).mono hB.size))
    exact ⟨zB hW (zC hx5 0), zB hW (zC hx5 1), zB hW (zC hx5 2), zB hW (zC hx5 3), zB hW (zC hx5 4), zB hW (zC hx5 5), zB hW (zC hx5 6), g0, g3⟩)
   have HWD := zH ((Below.refl w5.heap.size w5).drew)
   have HGD := zH (zA hgd (zA hpv (zA hx (zA hB hb5))))
   have E96 := zH (enters_of Tryz.func96 (by kernel_rfl) rfl)
   have E102 := zH (enters_of Tryz.func102 (by kernel_rfl) rfl)
   clear hi hpv hx hB hb1 hb2 hb3 hb4 hb6 hV1 hV2 hV3 hT hnq hgd hdr hb5 hx5 hz5 HX
   have key : (b1 = false ∨ (b1 = true ∧ b2 = false) ∨ (b1 = true ∧ b2 = true ∧ b3 = false)) ∨ (b1 = true ∧ b2 = true ∧ b3 = true) := by
    cases b1 <;> cases b2 <;> cases b3 <;> simp
   rcases key with key | ⟨rfl, rfl, rfl⟩
   ·have hr : r = false := by
     rw [HDR0.out, HGD.out.1]
     rcases key with rfl | ⟨rfl, rfl⟩ | ⟨rfl, rfl, rfl⟩ <;> simp
    subst hr
    rcases key with rfl | ⟨rfl, rfl⟩ | ⟨rfl, rfl, rfl⟩
    all_goals
     refine zR 39 (S := fun W => W.cell? ⟨wA.heap.size, 0, none⟩ = some (.int .i64 ef) ∧ W.cell? ⟨wA.heap.size, 1, none⟩ = some (.int .i64 et) ∧ W.cell? ⟨wA.heap.size, 2, none⟩ = some (.int .i64 en) ∧ W.cell? ⟨wA.heap.size, 3, none⟩ = some (.bool el) ∧ W.cell? ⟨wA.heap.size, 4, none⟩ = some (.int .i64 e0) ∧ W.cell? ⟨wA.heap.size, 5, none⟩ = some (.int .i64 e1) ∧ W.cell? ⟨wA.heap.size, 6, none⟩ = some (.int .i64 e2) ∧ W.cell? ⟨w.heap.size, 0, none⟩ = some (.slice a1 ts.length c1) ∧ W.cell? ⟨w.heap.size, 3, none⟩ = some (.slice (some ⟨b, off, none⟩) es.length c4)) (by kernel_rfl) (by kernel_rfl) rfl (HS5.out _ HWD.out) (fun hHeld => ?_)
     try simp only [List.reduceReplicate]
     repeat (first
      | refine takeA [] (h := ?_)
      | (refine callA [] (args := ?_) (R := ?_) (he := ?_) (hc := ?_) (hargs := ?_) (h := ?_)
         rotate_left 2
         first | (exact E96.out; exact HV1.out _; rfl; rintro e wz ⟨rfl, rfl⟩; refine .inl ⟨_, rfl, by assumption, fun hHeld => ?_⟩) | (exact E96.out; exact HV2.out _; rfl; rintro e wz ⟨rfl, rfl⟩; refine .inl ⟨_, rfl, by assumption, fun hHeld => ?_⟩) | (exact E96.out; exact HV3.out _; rfl; rintro e wz ⟨rfl, rfl⟩; refine .inl ⟨_, rfl, by assumption, fun hHeld => ?_⟩)
         refine normA (h := ?_)))
     refine wpAnyH_done (by kernel_rfl) ?_ _
     clear hHeld
     go_wp2
     go_ret
     exact ⟨rfl, HC.out.1.trans ((HGD.out.2.2.2.1.trans ((HGD.out.2.2.2.2.trans (HWD.out.mono HGD.out.2.2.2.2.size)).mono HGD.out.2.2.2.1.size)).mono HC.out.1.size)⟩
   have HGOOD := zH (show edgeGood srcs ts.length ⟨ef, et, en, el, ⟨e0, e1, e2⟩⟩ = (if el then b4 else b6) by rw [HGD.out.1]; simp)
   by_cases hk : k = 0
   ·subst hk
    have HDR := zH (show r = (edgeGood srcs ts.length ⟨ef, et, en, el, ⟨e0, e1, e2⟩⟩ && edgesFrom srcs ts.length (prevAt es 1) (es.drop 1)) by rw [HDR0.out]; simp [prevAt])
    refine zR 39 (S := fun W => W.cell? ⟨wA.heap.size, 0, none⟩ = some (.int .i64 ef) ∧ W.cell? ⟨wA.heap.size, 1, none⟩ = some (.int .i64 et) ∧ W.cell? ⟨wA.heap.size, 2, none⟩ = some (.int .i64 en) ∧ W.cell? ⟨wA.heap.size, 3, none⟩ = some (.bool el) ∧ W.cell? ⟨wA.heap.size, 4, none⟩ = some (.int .i64 e0) ∧ W.cell? ⟨wA.heap.size, 5, none⟩ = some (.int .i64 e1) ∧ W.cell? ⟨wA.heap.size, 6, none⟩ = some (.int .i64 e2) ∧ W.cell? ⟨w.heap.size, 0, none⟩ = some (.slice a1 ts.length c1) ∧ W.cell? ⟨w.heap.size, 3, none⟩ = some (.slice (some ⟨b, off, none⟩) es.length c4)) (by kernel_rfl) (by kernel_rfl) rfl (HS5.out _ HWD.out) (fun hHeld => ?_)
    try simp only [List.reduceReplicate]
    repeat (first
     | refine takeA [] (h := ?_)
     | (refine callA [] (args := ?_) (R := ?_) (he := ?_) (hc := ?_) (hargs := ?_) (h := ?_)
        rotate_left 2
        first | (exact E96.out; exact HV1.out _; rfl; rintro e wz ⟨rfl, rfl⟩; refine .inl ⟨_, rfl, by assumption, fun hHeld => ?_⟩) | (exact E96.out; exact HV2.out _; rfl; rintro e wz ⟨rfl, rfl⟩; refine .inl ⟨_, rfl, by assumption, fun hHeld => ?_⟩) | (exact E96.out; exact HV3.out _; rfl; rintro e wz ⟨rfl, rfl⟩; refine .inl ⟨_, rfl, by assumption, fun hHeld => ?_⟩)
        refine normA (h := ?_)))
    refine wpAnyH_done (by kernel_rfl) ?_ _
    clear hHeld
    obtain ⟨g0, g1, g2, g3, g4, g5, g6, _⟩ := HS5.out _ HWD.out
    have HWX := zH (HGD.out.2.2.2.1.trans ((HGD.out.2.2.2.2.trans (HWD.out.mono HGD.out.2.2.2.2.size)).mono HGD.out.2.2.2.1.size))
    clear hsw
    cases el with
    | true =>
     replace HGOOD := zH (show edgeGood srcs ts.length ⟨ef, et, en, true, ⟨e0, e1, e2⟩⟩ = b4 from HGOOD.out)
     cases b4 with
     | false =>
      have hr : r = false := by rw [HDR.out, HGOOD.out]; simp
      subst hr
      go_wp2_with (go_at_call 101; refine (HT.out _).mono ?_; rintro e w9 ⟨rfl, hb9⟩; replace HWX := zH (HWX.out.trans (hb9.mono HWX.out.size)); clear hb9)
      go_ret
      exact ⟨rfl, HC.out.1.trans (HWX.out.mono HC.out.1.size)⟩
     | true =>
      go_wp2_with (go_at_call 101; refine (HT.out _).mono ?_; rintro e w9 ⟨rfl, hb9⟩; replace HWX := zH (HWX.out.trans (hb9.mono HWX.out.size)); have g3' := zB hb9 g3; clear hb9 g3)
      go_roundw
      case rel => exact ⟨0 + 1, by go_num, by omega, by rw [HDR.out, HGOOD.out, Bool.true_and], fun u hu => by rw [prevAt_succ HGD.out.2.2.1] at hu; injection hu with hu; rw [← hu]; exact HGOOD.out, HWX.out⟩
      case measure => simp [intOf]; omega
    | false =>
     replace HGOOD := zH (show edgeGood srcs ts.length ⟨ef, et, en, false, ⟨e0, e1, e2⟩⟩ = b6 from HGOOD.out)
     cases b6 with
     | false =>
      have hr : r = false := by rw [HDR.out, HGOOD.out]; simp
      subst hr
      have hnq := HNQ.out
      go_wp2
      go_ret
      exact ⟨rfl, HC.out.1.trans (HWX.out.mono HC.out.1.size)⟩
     | true =>
      have hnq := HNQ.out
      go_wp2
      go_roundw
      case rel => exact ⟨0 + 1, by go_num, by omega, by rw [HDR.out, HGOOD.out, Bool.true_and], fun u hu => by rw [prevAt_succ HGD.out.2.2.1] at hu; injection hu with hu; rw [← hu]; exact HGOOD.out, HWX.out⟩
      case measure => simp [intOf]; omega
   obtain ⟨p, hp⟩ : ∃ p, p = k - 1 := ⟨_, rfl⟩
   have hxp := List.getElem?_eq_getElem (show p < es.length by omega)
   generalize es[p] = u at hxp
   have hpk : prevAt es k = some u := by unfold prevAt; rw [if_neg hk, ← hp, hxp]
   have hug := HGD.out.2.1 u hpk
   obtain ⟨b', off', he', _, hcp⟩ := rd_at (HA.out.follow.below (HC.out.1.trans (HGD.out.2.2.2.1.mono HC.out.1.size))) hxp
   injection he' with he'
   injection he' with ea1 ea2
   subst ea1; subst ea2
   obtain ⟨o, ho⟩ : ∃ o, o = edgeOrdW u ⟨ef, et, en, el, ⟨e0, e1, e2⟩⟩ := ⟨_, rfl⟩
   have hord := fun W => refEdgeOrd_w u ⟨ef, et, en, el, ⟨e0, e1, e2⟩⟩ W
   simp only [← ho] at hord
   have HE := zH hord
   have HDR1 := zH (show r = (edgeGood srcs ts.length ⟨ef, et, en, el, ⟨e0, e1, e2⟩⟩ && decide (o < 0) && edgesFrom srcs ts.length (prevAt es (k + 1)) (es.drop (k + 1))) by
    rw [HDR0.out, hpk]
    cases hgg : edgeGood srcs ts.length ⟨ef, et, en, el, ⟨e0, e1, e2⟩⟩ with
    | false => simp
    | true =>
     have hus := edgeGood_small hug HS.out.2 (by have := H12.out; omega)
     have hxs := edgeGood_small hgg HS.out.2 (by have := H12.out; omega)
     obtain ⟨pf, pt, pn, pl, ps, po, ph⟩ := u
     unfold smallT at hus hxs
     dsimp only at hus hxs
     rw [ho, edgeOrdW_eq (by simp only [edgeSm, small1]; omega) (by simp only [edgeSm, small1]; omega)])
   obtain ⟨pf, pt, pn, pl, p0, p1, p2⟩ := u
   have z0 : wA.cell? ⟨b, off + p * 7, none⟩ = some (.int .i64 pf) := hcp 0 _ rfl
   have z1 := hcp 1 _ rfl
   have z2 := hcp 2 _ rfl
   have z3 := hcp 3 _ rfl
   have z4 := hcp 4 _ rfl
   have z5 := hcp 5 _ rfl
   have z6 := hcp 6 _ rfl
   have HS6 := HS5
   replace HS5 := zH (show ∀ W, Below w5.heap.size w5 W → W.cell? ⟨wA.heap.size, 0, none⟩ = some (.int .i64 ef) ∧ W.cell? ⟨wA.heap.size, 1, none⟩ = some (.int .i64 et) ∧ W.cell? ⟨wA.heap.size, 2, none⟩ = some (.int .i64 en) ∧ W.cell? ⟨wA.heap.size, 3, none⟩ = some (.bool el) ∧ W.cell? ⟨wA.heap.size, 4, none⟩ = some (.int .i64 e0) ∧ W.cell? ⟨wA.heap.size, 5, none⟩ = some (.int .i64 e1) ∧ W.cell? ⟨wA.heap.size, 6, none⟩ = some (.int .i64 e2) ∧ W.cell? ⟨w.heap.size, 0, none⟩ = some (.slice a1 ts.length c1) ∧ W.cell? ⟨w.heap.size, 3, none⟩ = some (.slice (some ⟨b, off, none⟩) es.length c4) ∧ W.cell? ⟨b, off + p * 7, none⟩ = some (.int .i64 pf) ∧ W.cell? ⟨b, off + p * 7 + 1, none⟩ = some (.int .i64 pt) ∧ W.cell? ⟨b, off + p * 7 + 2, none⟩ = some (.int .i64 pn) ∧ W.cell? ⟨b, off + p * 7 + 3, none⟩ = some (.bool pl) ∧ W.cell? ⟨b, off + p * 7 + 4, none⟩ = some (.int .i64 p0) ∧ W.cell? ⟨b, off + p * 7 + 5, none⟩ = some (.int .i64 p1) ∧ W.cell? ⟨b, off + p * 7 + 6, none⟩ = some (.int .i64 p2) from fun W hW => by
    obtain ⟨k0, k1, k2, k3, k4, k5, k6, k7, k8⟩ := HS6.out W hW
    have hW := HGD.out.2.2.2.2.trans (hW.mono HGD.out.2.2.2.2.size)
    exact ⟨k0, k1, k2, k3, k4, k5, k6, k7, k8, zB hW z0, zB hW z1, zB hW z2, zB hW z3, zB hW z4, zB hW z5, zB hW z6⟩)
   have hwp : IntKind.i64.wrap ((k : Int) - 1) = (p : Int) := by rw [Go.IntWalk.i64_in _ (by omega)]; omega
   have n2 : (p : Int) < (es.length : Int) := by omega
   have n3 : (0 : Int) < (k : Int) := by omega
   have n4 : 0 < k := by omega
   clear z0 z1 z2 z3 z4 z5 z6 hcp hxp hug hord ho hpk hp hk HDR0 HS6
   by_cases ho0 : 0 ≤ o
   ·have hr : r = false := by rw [HDR1.out, decide_eq_false (by omega)]; simp
    subst hr
    have g9 : decide (0 ≤ o) = true := decide_eq_true ho0
    clear ho0
    refine zR 39 (S := fun W => W.cell? ⟨wA.heap.size, 0, none⟩ = some (.int .i64 ef) ∧ W.cell? ⟨wA.heap.size, 1, none⟩ = some (.int .i64 et) ∧ W.cell? ⟨wA.heap.size, 2, none⟩ = some (.int .i64 en) ∧ W.cell? ⟨wA.heap.size, 3, none⟩ = some (.bool el) ∧ W.cell? ⟨wA.heap.size, 4, none⟩ = some (.int .i64 e0) ∧ W.cell? ⟨wA.heap.size, 5, none⟩ = some (.int .i64 e1) ∧ W.cell? ⟨wA.heap.size, 6, none⟩ = some (.int .i64 e2) ∧ W.cell? ⟨w.heap.size, 0, none⟩ = some (.slice a1 ts.length c1) ∧ W.cell? ⟨w.heap.size, 3, none⟩ = some (.slice (some ⟨b, off, none⟩) es.length c4) ∧ W.cell? ⟨b, off + p * 7, none⟩ = some (.int .i64 pf) ∧ W.cell? ⟨b, off + p * 7 + 1, none⟩ = some (.int .i64 pt) ∧ W.cell? ⟨b, off + p * 7 + 2, none⟩ = some (.int .i64 pn) ∧ W.cell? ⟨b, off + p * 7 + 3, none⟩ = some (.bool pl) ∧ W.cell? ⟨b, off + p * 7 + 4, none⟩ = some (.int .i64 p0) ∧ W.cell? ⟨b, off + p * 7 + 5, none⟩ = some (.int .i64 p1) ∧ W.cell? ⟨b, off + p * 7 + 6, none⟩ = some (.int .i64 p2)) (by kernel_rfl) (by kernel_rfl) rfl (HS5.out _ HWD.out) (fun hHeld => ?_)
    try simp only [List.reduceReplicate]
    repeat (first
     | refine takeA [] (h := ?_)
     | (refine callA [] (args := ?_) (R := ?_) (he := ?_) (hc := ?_) (hargs := ?_) (h := ?_)
        rotate_left 2
        first | (exact E96.out; exact HV1.out _; rfl; rintro e wz ⟨rfl, rfl⟩; refine .inl ⟨_, rfl, by assumption, fun hHeld => ?_⟩) | (exact E96.out; exact HV2.out _; rfl; rintro e wz ⟨rfl, rfl⟩; refine .inl ⟨_, rfl, by assumption, fun hHeld => ?_⟩) | (exact E96.out; exact HV3.out _; rfl; rintro e wz ⟨rfl, rfl⟩; refine .inl ⟨_, rfl, by assumption, fun hHeld => ?_⟩) | (exact E102.out; exact HE.out _; rfl; rintro e wz ⟨rfl, hbz⟩; refine .inl ⟨_, rfl, HS5.out _ (HWD.out.trans (hbz.mono HWD.out.size)), fun hHeld => ?_⟩; replace HWD := zH (HWD.out.trans (hbz.mono HWD.out.size)); clear hbz)
        refine normA (h := ?_)))
    refine wpAnyH_done (by kernel_rfl) ?_ _
    clear hHeld
    go_wp2
    go_ret
    exact ⟨rfl, HC.out.1.trans ((HGD.out.2.2.2.1.trans ((HGD.out.2.2.2.2.trans (HWD.out.mono HGD.out.2.2.2.2.size)).mono HGD.out.2.2.2.1.size)).mono HC.out.1.size)⟩
   have HDR := zH (show r = (edgeGood srcs ts.length ⟨ef, et, en, el, ⟨e0, e1, e2⟩⟩ && edgesFrom srcs ts.length (prevAt es (k + 1)) (es.drop (k + 1))) by rw [HDR1.out, decide_eq_true (by omega)]; simp)
   have g9 : decide (0 ≤ o) = false := decide_eq_false ho0
   clear ho0
   refine zR 39 (S := fun W => W.cell? ⟨wA.heap.size, 0, none⟩ = some (.int .i64 ef) ∧ W.cell? ⟨wA.heap.size, 1, none⟩ = some (.int .i64 et) ∧ W.cell? ⟨wA.heap.size, 2, none⟩ = some (.int .i64 en) ∧ W.cell? ⟨wA.heap.size, 3, none⟩ = some (.bool el) ∧ W.cell? ⟨wA.heap.size, 4, none⟩ = some (.int .i64 e0) ∧ W.cell? ⟨wA.heap.size, 5, none⟩ = some (.int .i64 e1) ∧ W.cell? ⟨wA.heap.size, 6, none⟩ = some (.int .i64 e2) ∧ W.cell? ⟨w.heap.size, 0, none⟩ = some (.slice a1 ts.length c1) ∧ W.cell? ⟨w.heap.size, 3, none⟩ = some (.slice (some ⟨b, off, none⟩) es.length c4) ∧ W.cell? ⟨b, off + p * 7, none⟩ = some (.int .i64 pf) ∧ W.cell? ⟨b, off + p * 7 + 1, none⟩ = some (.int .i64 pt) ∧ W.cell? ⟨b, off + p * 7 + 2, none⟩ = some (.int .i64 pn) ∧ W.cell? ⟨b, off + p * 7 + 3, none⟩ = some (.bool pl) ∧ W.cell? ⟨b, off + p * 7 + 4, none⟩ = some (.int .i64 p0) ∧ W.cell? ⟨b, off + p * 7 + 5, none⟩ = some (.int .i64 p1) ∧ W.cell? ⟨b, off + p * 7 + 6, none⟩ = some (.int .i64 p2)) (by kernel_rfl) (by kernel_rfl) rfl (HS5.out _ HWD.out) (fun hHeld => ?_)
   try simp only [List.reduceReplicate]
   repeat (first
    | refine takeA [] (h := ?_)
    | (refine callA [] (args := ?_) (R := ?_) (he := ?_) (hc := ?_) (hargs := ?_) (h := ?_)
       rotate_left 2
       first | (exact E96.out; exact HV1.out _; rfl; rintro e wz ⟨rfl, rfl⟩; refine .inl ⟨_, rfl, by assumption, fun hHeld => ?_⟩) | (exact E96.out; exact HV2.out _; rfl; rintro e wz ⟨rfl, rfl⟩; refine .inl ⟨_, rfl, by assumption, fun hHeld => ?_⟩) | (exact E96.out; exact HV3.out _; rfl; rintro e wz ⟨rfl, rfl⟩; refine .inl ⟨_, rfl, by assumption, fun hHeld => ?_⟩) | (exact E102.out; exact HE.out _; rfl; rintro e wz ⟨rfl, hbz⟩; refine .inl ⟨_, rfl, HS5.out _ (HWD.out.trans (hbz.mono HWD.out.size)), fun hHeld => ?_⟩; replace HWD := zH (HWD.out.trans (hbz.mono HWD.out.size)); clear hbz)
       refine normA (h := ?_)))
   refine wpAnyH_done (by kernel_rfl) ?_ _
   clear hHeld
   obtain ⟨g0, g1, g2, g3, g4, g5, g6, _⟩ := HS5.out _ HWD.out
   have HWX := zH (HGD.out.2.2.2.1.trans ((HGD.out.2.2.2.2.trans (HWD.out.mono HGD.out.2.2.2.2.size)).mono HGD.out.2.2.2.1.size))
   clear hsw hwp n2 n3 n4 g9
   cases el with
   | true =>
    replace HGOOD := zH (show edgeGood srcs ts.length ⟨ef, et, en, true, ⟨e0, e1, e2⟩⟩ = b4 from HGOOD.out)
    cases b4 with
    | false =>
     have hr : r = false := by rw [HDR.out, HGOOD.out]; simp
     subst hr
     go_wp2_with (go_at_call 101; refine (HT.out _).mono ?_; rintro e w9 ⟨rfl, hb9⟩; replace HWX := zH (HWX.out.trans (hb9.mono HWX.out.size)); clear hb9)
     go_ret
     exact ⟨rfl, HC.out.1.trans (HWX.out.mono HC.out.1.size)⟩
    | true =>
     go_wp2_with (go_at_call 101; refine (HT.out _).mono ?_; rintro e w9 ⟨rfl, hb9⟩; replace HWX := zH (HWX.out.trans (hb9.mono HWX.out.size)); have g3' := zB hb9 g3; clear hb9 g3)
     go_roundw
     case rel => exact ⟨k + 1, by go_num, by omega, by rw [HDR.out, HGOOD.out, Bool.true_and], fun u hu => by rw [prevAt_succ HGD.out.2.2.1] at hu; injection hu with hu; rw [← hu]; exact HGOOD.out, HWX.out⟩
     case measure => simp [intOf]; omega
   | false =>
    replace HGOOD := zH (show edgeGood srcs ts.length ⟨ef, et, en, false, ⟨e0, e1, e2⟩⟩ = b6 from HGOOD.out)
    cases b6 with
    | false =>
     have hr : r = false := by rw [HDR.out, HGOOD.out]; simp
     subst hr
     have hnq := HNQ.out
     go_wp2
     go_ret
     exact ⟨rfl, HC.out.1.trans (HWX.out.mono HC.out.1.size)⟩
    | true =>
     have hnq := HNQ.out
     go_wp2
     go_roundw
     case rel => exact ⟨k + 1, by go_num, by omega, by rw [HDR.out, HGOOD.out, Bool.true_and], fun u hu => by rw [prevAt_succ HGD.out.2.2.1] at hu; injection hu with hu; rw [← hu]; exact HGOOD.out, HWX.out⟩
     case measure => simp [intOf]; omega
end
end Go.Proofs.YtgiploddoffmjaaGreat
