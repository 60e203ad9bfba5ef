/- My texts, joined: W53. -/
import Derived.Below
import Derived.BigQuiet
import Derived.Deep.AppendLies
import Derived.Deep.DeepCutAuto
import Derived.Deep.QuietTactic
import Derived.Deep.RegionHeld
import Derived.Deep.RegionHeld3
import Derived.Deep.RegionLaw
import Derived.Defers
import Derived.Ground.Names2Prog
import Derived.Ground.Names8Prog
import Derived.Ground.SlsfProg
import Derived.Handy
import Derived.KernelRfl
import Derived.Laws.AppendOwn
import Derived.Laws.AppendOwnNone
import Derived.Laws.CopyRow
import Derived.Laws.Pointers
import Derived.Laws.StructEq
import Derived.Lib.Hide
import Derived.Lib.Overlaps
import Derived.LoopIn
import Derived.LoopN
import Derived.LoopNIn
import Derived.LoopTactic
import Derived.MapKept
import Derived.Maps.AppendAt
import Derived.Maps.OwnOps
import Derived.Maps.RangeRun
import Derived.Maps.RangeWalk
import Derived.Outline
import Derived.OwnWalk
import Derived.OwnWalkIn
import Derived.RangeFuncBound
import Derived.RangeFuncCalls
import Derived.RangeFuncLeaves
import Derived.RangeFuncNested
import Derived.Recover
import Derived.Shelf.Abstract
import Derived.Shelf.RegionOpen
import Derived.Shelf.SlGeneric
import Derived.Shelf.SlLaysF0
import Derived.Shelf.SlSortCmp.HeapSort1
import Derived.Shelf.SlSortCmp.Insertion
import Derived.Shelf.SlSortCmp.Insertion1
import Derived.Shelf.SlSortCmp.Median1
import Derived.Shelf.SlSortCmp.NoneTotal
import Derived.Shelf.SlSortCmp.PartialInsertion1
import Derived.Shelf.SlSortCmp.Partition1
import Derived.Shelf.SlSortCmp.PartitionEqual1
import Derived.Shelf.SlSortCmp.Pdq1
import Derived.Shelf.SlSortCmp.Pivot1
import Derived.Shelf.SlSortCmp.ReverseRange1
import Derived.Shelf.SlSortCmp.SiftDown1
import Derived.Shelf.SlSortCmp.Whole1
import Derived.Shelf.SlSortCmp.WholeK
import Derived.Shelf.Slices.In.SortNone
import Derived.Shelf.Small.Bits
import Derived.Shelf.Sort.Plain
import Derived.Shelf.Spec.SlicesGrow
import Derived.TacticsInMore
import Derived.Test.YtgiploddoffmjaaGreatProg
import Derived.WalkKit
import Derived.WalkLawsBesides
import Derived.WalkSpells
import Derived.Test.YtgiploddoffmjaaGreatM0
import Derived.Test.YtgiploddoffmjaaGreatM1
import Derived.Test.YtgiploddoffmjaaGreatM2
import Derived.Test.YtgiploddoffmjaaGreatM3
import Derived.Test.YtgiploddoffmjaaGreatM4
import Derived.Test.YtgiploddoffmjaaGreatM5
import Derived.Test.YtgiploddoffmjaaGreatM6
import Derived.Test.YtgiploddoffmjaaGreatM8
import Derived.Test.YtgiploddoffmjaaGreatM9
import Derived.Test.YtgiploddoffmjaaGreatM10
import Derived.Test.YtgiploddoffmjaaGreatM11
import Derived.Test.YtgiploddoffmjaaGreatM12
import Derived.Test.YtgiploddoffmjaaGreatM13
import Derived.Test.YtgiploddoffmjaaGreatM19
import Derived.Test.YtgiploddoffmjaaGreatM20
import Derived.Test.YtgiploddoffmjaaGreatM21
import Derived.Test.YtgiploddoffmjaaGreatM22
import Derived.Test.YtgiploddoffmjaaGreatM24
set_option linter.unusedVariables false
set_option linter.unusedSimpArgs false
set_option linter.unusedSectionVars false
set_option maxRecDepth 10000
namespace Go.Proofs.YtgiploddoffmjaaGreat
section
open Go.RowKit Go.Shelf
theorem neqTest0 (s0 lo hi s1 lo1 hi1 : Int) (w : World) : (binOp .neq 24 (.agg #[.int .i64 s0, .int .i64 lo, .int .i64 hi]) (.agg #[.int .i64 s1, .int .i64 lo1, .int .i64 hi1])).run Tryz.prog w = .ok (.bool (!decide ((⟨s0, lo, hi⟩ : Test) = ⟨s1, lo1, hi1⟩))) w := by
 have u3 := Tryz.underlying3
 have a3 := Tryz.isAgg3
 have z3 := Tryz.sizeOf3
 have hS : Tryz.prog.underlying 24 = some (.struct (Tryz.prog.fieldsOf 24)) := by kernel_rfl
 have hp : Tryz.prog.stoodInHeld 24 = false := by kernel_rfl
 rw [run_neq_struct, show (10000 : Nat) = 9999 + 1 from rfl, run_equalIn_agg w 9999 24 _ _ hS hp]
 simp only [Program.fieldsOf, Tryz.underlying24]
 go_simp
 by_cases h5 : s0 = s1 <;> by_cases h6 : lo = lo1 <;> by_cases h7 : hi = hi1 <;> simp [h5, h6, h7]
set_option maxRecDepth 1000000 in
set_option maxHeartbeats 32000000 in
theorem isAuto_any (v1 v2 v3 v4 : Value) (au : Auto) (srcs : Int) (hs : 1 ≤ srcs ∧ srcs ≤ 4) (w : World) (ha : AutoAt w v1 v2 v3 v4 au) :
 Calls Tryz.prog 89 #[.agg #[v1, v2, v3, v4], .int .i64 srcs] w fun e w' => e = .returned (.bool (isAutoP srcs au)) ∧ Below w.heap.size w w' := by
 obtain ⟨ts, fs, ls, es⟩ := au
 obtain ⟨a1, c1, rfl⟩ : ∃ a c, v1 = .slice a ts.length c := by obtain ⟨_, a, c, rfl, _⟩ := ha.tests; exact ⟨a, c, rfl⟩
 obtain ⟨a2, c2, rfl⟩ : ∃ a c, v2 = .slice a fs.length c := by obtain ⟨_, a, c, rfl, _⟩ := ha.first; exact ⟨a, c, rfl⟩
 obtain ⟨a3, c3, rfl⟩ : ∃ a c, v3 = .slice a ls.length c := by obtain ⟨_, a, c, rfl, _⟩ := ha.last; exact ⟨a, c, rfl⟩
 obtain ⟨a4, c4, rfl⟩ : ∃ a c, v4 = .slice a es.length c := by obtain ⟨_, a, c, rfl, _⟩ := ha.follow; exact ⟨a, c, rfl⟩
 have hl1 := ha.tests.1
 have hl4 := ha.follow.1
 have HA := zH ha
 clear ha
 obtain ⟨r, hr⟩ : ∃ r, r = isAutoP srcs ⟨ts, fs, ls, es⟩ := ⟨_, rfl⟩
 rw [← hr]
 replace hr : r = (decide (ts.length ≤ 12) && !(ts.any fun t => !isTestP t srcs) && placesFrom ts.length none fs && placesFrom ts.length none ls && edgesFrom srcs ts.length none es) := hr
 have HB := zH (Below.refl w.heap.size w)
 by_cases h12 : (ts.length : Int) ≤ 12
 rotate_left
 ·have hr : r = false := by rw [hr, decide_eq_false (by omega)]; rfl
  subst hr
  have h13 : (12 : Int) < ts.length := by omega
  go_enter Tryz.func89, Tryz.ntmps89
  go_wp2_with fail
  go_ret
  exact ⟨rfl, (HB.out.alloc (Nat.le_refl _) _).alloc (by simp) _⟩
 replace hr : r = (!(ts.any fun t => !isTestP t srcs) && placesFrom ts.length none fs && placesFrom ts.length none ls && edgesFrom srcs ts.length none es) := by rw [hr, decide_eq_true (by omega)]; rfl
 have HR := zH hr
 clear hr
 have HS := zH hs
 have hg : (12 : Int) < ts.length ↔ False := by simp; omega
 have h12d : decide ((12 : Int) < ts.length) = false := decide_eq_false (by omega)
 clear hs
 go_enter Tryz.func89, Tryz.ntmps89
 go_wp2_with fail
 refine named_box2 (G := fun W => Calls _ _ _ W _) w _ _ _ _ fun W1 hb1 hz1 hx1 hy1 => ?_
 have hcs : ∀ W, Below W1.heap.size W1 W → W.cell? ⟨w.heap.size, 0, none⟩ = some (.slice a1 ts.length c1) ∧ W.cell? ⟨w.heap.size, 1, none⟩ = some (.slice a2 fs.length c2) ∧ W.cell? ⟨w.heap.size, 2, none⟩ = some (.slice a3 ls.length c3) ∧ W.cell? ⟨w.heap.size, 3, none⟩ = some (.slice a4 es.length c4) ∧ W.cell? ⟨w.heap.size + 1, 0, none⟩ = some (.int .i64 srcs) := fun W hW => ⟨zB hW (zC hx1 0), zB hW (zC hx1 1), zB hW (zC hx1 2), zB hW (zC hx1 3), zB hW (zC hy1 0)⟩
 refine (tests_good _ ts srcs HS.out _ W1 (HA.out.tests.below hb1) (zC hy1 0)).mono ?_
 rintro e w2 ⟨rfl, hb2⟩
 have HC := zH (zA hb1 hcs)
 have hz1' : W1.heap.size = w.heap.size + 2 := hz1
 clear hcs hb1 hx1 hy1 hz1
 obtain ⟨d0, d1, d2, d3, d4⟩ := HC.out.2 w2 hb2
 have hB2 := HC.out.1.trans (hb2.mono HC.out.1.size)
 obtain ⟨t1, ht1⟩ : ∃ b, b = ts.any fun t => !isTestP t srcs := ⟨_, rfl⟩
 rw [← ht1] at HR ⊢
 have H2 := zH (zA hb2 hB2)
 clear hb2 hB2 ht1
 cases t1 with
 | true =>
  have hr : r = false := by rw [HR.out]; rfl
  subst hr
  go_wp2_with fail
  go_ret
  exact ⟨rfl, H2.out.2⟩
 | false =>
 have HP := zH (fun W hW => places_any (.slice a2 fs.length c2) fs ts.length (by omega) W (HA.out.first.below hW))
 have HQ := zH (fun W hW => places_any (.slice a3 ls.length c3) ls ts.length (by omega) W (HA.out.last.below hW))
 obtain ⟨p1, hp1⟩ : ∃ b, b = placesFrom ts.length none fs := ⟨_, rfl⟩
 obtain ⟨p2, hp2⟩ : ∃ b, b = placesFrom ts.length none ls := ⟨_, rfl⟩
 rw [← hp1] at HP HR
 rw [← hp2] at HQ HR
 clear hp1 hp2
 go_wp2_with fail
 refine (HP.out w2 H2.out.2).mono ?_
 rintro e w3 ⟨rfl, hb3⟩
 have h3 := H2.out.1.trans (hb3.mono H2.out.1.size)
 clear d0 d1 d2 d3 d4
 obtain ⟨d0, d1, d2, d3, d4⟩ := HC.out.2 w3 h3
 have H3 := zH (zA h3 (HC.out.1.trans (h3.mono HC.out.1.size)))
 clear h3 hb3
 cases p1 with
 | false =>
  have hr : r = false := by rw [HR.out]; rfl
  subst hr
  go_wp2_with fail
  go_ret
  exact ⟨rfl, H3.out.2⟩
 | true =>
 go_wp2_with fail
 refine (HQ.out w3 H3.out.2).mono ?_
 rintro e w4 ⟨rfl, hb4⟩
 have h4 := H3.out.1.trans (hb4.mono H3.out.1.size)
 clear d0 d1 d2 d3 d4
 obtain ⟨d0, d1, d2, d3, d4⟩ := HC.out.2 w4 h4
 have H4 := zH (zA h4 (HC.out.1.trans (h4.mono HC.out.1.size)))
 clear h4 hb4 H2 H3 HP HQ
 cases p2 with
 | false =>
  have hr : r = false := by rw [HR.out]; rfl
  subst hr
  go_wp2_with fail
  go_ret
  exact ⟨rfl, H4.out.2⟩
 | true =>
 have hr : r = edgesFrom srcs ts.length none es := by rw [HR.out]; rfl
 clear HR
 have HR := zH hr
 clear hr
 have hsw : IntKind.i64.wrap ((ts.length : Int) - 1) = ts.length - 1 := Go.IntWalk.i64_in _ (by omega)
 clear hl1
 go_wp2
 go_loopw [36] (fun i W => ∃ (k : Nat), i = .int .i64 k ∧ k ≤ es.length ∧ edgesFrom srcs ts.length (prevAt es k) (es.drop k) = r ∧ (∀ u, prevAt es k = some u → edgeGood srcs ts.length u = true) ∧ Below W1.heap.size W1 W) (fun i _ => es.length - (intOf i).toNat)
 case atStart => exact ⟨0, rfl, by omega, HR.out.symm, fun u h => (by cases h), H4.out.1⟩
 case round =>
  obtain ⟨k, rfl, hnl, hi, hpv, hB⟩ := hrel
  clear d0 d1 d2 d3 d4
  obtain ⟨d0, d1, d2, d3, d4⟩ := HC.out.2 wr hB
  have hBw := HC.out.1.trans (hB.mono HC.out.1.size)
  by_cases hlt : k < es.length
  ·have hx := List.getElem?_eq_getElem hlt
   generalize es[k] = x at hx
   obtain ⟨ef, et, en, el, s0, lo, hi'⟩ := x
   obtain ⟨b, off, rfl, hbl, hc⟩ := rd_at (HA.out.follow.below hBw) hx
   have q0 : wr.cell? ⟨b, off + k * 7, none⟩ = some (.int .i64 ef) := hc 0 _ rfl
   have q1 := hc 1 _ rfl
   have q2 := hc 2 _ rfl
   have q3 := hc 3 _ rfl
   have q4 := hc 4 _ rfl
   have q5 := hc 5 _ rfl
   have q6 := hc 6 _ rfl
   have HG := zH (zA hi (zA hpv (zA hB (zA hBw hx))))
   clear hi hpv hB hBw hc hx
   go_wp2_with fail
   refine zX (G := fun W => Code.wp _ _ _ _ W) wr _ _ fun w5 hb5 hz5 hx5 => ?_
   clear d0 d1 d2 d3 d4 q0 q1 q2 q3 q4 q5 q6
   obtain ⟨hi, hpv, hB, hBw, hx⟩ := HG.out
   have hbd : Below wr.heap.size wr w5.drew := hb5.trans ((Below.refl w5.heap.size w5).drew.mono hb5.size)
   have hcs5 : ∀ W, Below w5.heap.size w5 W → W.cell? ⟨wr.heap.size, 0, none⟩ = some (.int .i64 ef) ∧ W.cell? ⟨wr.heap.size, 1, none⟩ = some (.int .i64 et) ∧ W.cell? ⟨wr.heap.size, 2, none⟩ = some (.int .i64 en) ∧ W.cell? ⟨wr.heap.size, 3, none⟩ = some (.bool el) ∧ W.cell? ⟨wr.heap.size, 4, none⟩ = some (.int .i64 s0) ∧ W.cell? ⟨wr.heap.size, 5, none⟩ = some (.int .i64 lo) ∧ W.cell? ⟨wr.heap.size, 6, none⟩ = some (.int .i64 hi') ∧ W.cell? ⟨w.heap.size, 3, none⟩ = some (.slice (some ⟨b, off, none⟩) es.length c4) ∧ W.cell? ⟨w.heap.size + 1, 0, none⟩ = some (.int .i64 srcs) := fun W hW => by
    obtain ⟨_, _, _, e3, e4⟩ := HC.out.2 W (hB.trans ((hb5.trans (hW.mono hb5.size)).mono hB.size))
    exact ⟨zB hW (zC hx5 0), zB hW (zC hx5 1), zB hW (zC hx5 2), zB hW (zC hx5 3), zB hW (zC hx5 4), zB hW (zC hx5 5), zB hW (zC hx5 6), e3, e4⟩
   have E88 := zH (enters_of Tryz.func88 (by kernel_rfl) rfl)
   have E151 := zH (enters_of Tryz.func151 (by kernel_rfl) rfl)
   have E79 := zH (enters_of Tryz.func79 (by kernel_rfl) rfl)
   obtain ⟨b1, hb1⟩ : ∃ b, b = inP ef 0 (ts.length - 1) := ⟨_, rfl⟩
   obtain ⟨b2, hb2⟩ : ∃ b, b = inP et 0 (ts.length - 1) := ⟨_, rfl⟩
   obtain ⟨b3, hb3⟩ : ∃ b, b = inP en 0 200 := ⟨_, rfl⟩
   obtain ⟨b4, hb4⟩ : ∃ b, b = isTestP ⟨s0, lo, hi'⟩ srcs := ⟨_, rfl⟩
   obtain ⟨b6, hb6⟩ : ∃ b, b = decide ((⟨s0, lo, hi'⟩ : Test) = ⟨0, 0, 0⟩) := ⟨_, rfl⟩
   have HV1 := zH (fun W => within_any ef 0 (ts.length - 1) W)
   have HV2 := zH (fun W => within_any et 0 (ts.length - 1) W)
   have HV3 := zH (fun W => within_any en 0 200 W)
   have HT := zH (fun W => isTest_any ⟨s0, lo, hi'⟩ srcs HS.out W)
   have hnq := fun W => neqTest0 s0 lo hi' 0 0 0 W
   have hgd : edgeGood srcs ts.length ⟨ef, et, en, el, ⟨s0, lo, hi'⟩⟩ = (b1 && b2 && b3 && (if el then b4 else b6)) := by rw [hb1, hb2, hb3, hb4, hb6]; rfl
   rw [← hb1] at HV1
   rw [← hb2] at HV2
   rw [← hb3] at HV3
   rw [← hb4] at HT
   simp only [← hb6] at hnq
   have hdr := edges_drop (srcs := srcs) (n := ts.length) hx
   rw [hi, hgd] at hdr
   have HD := zH (zA hdr (zA hgd (zA hpv (zA hB (zA hBw (zA hx hb5))))))
   have HS5 := zH hcs5
   have HWD := zH ((Below.refl w5.heap.size w5).drew)
   clear hi hpv hB hBw hx hcs5 hb1 hb2 hb3 hb4 hb6 hgd hdr HG hbd hx5 hb5
   have key : (b1 = false ∨ (b1 = true ∧ b2 = false) ∨ (b1 = true ∧ b2 = true ∧ b3 = false) ∨ (b1 = true ∧ b2 = true ∧ b3 = true ∧ el = true ∧ b4 = false) ∨ (b1 = true ∧ b2 = true ∧ b3 = true ∧ el = false ∧ b6 = false)) ∨ ((b1 = true ∧ b2 = true ∧ b3 = true ∧ el = true ∧ b4 = true) ∨ (b1 = true ∧ b2 = true ∧ b3 = true ∧ el = false ∧ b6 = true)) := by
    cases b1 <;> cases b2 <;> cases b3 <;> cases el <;> cases b4 <;> cases b6 <;> simp
   rcases key with key | key
   ·have hr : r = false := by
     rw [HD.out.1]
     rcases key with rfl | ⟨rfl, rfl⟩ | ⟨rfl, rfl, rfl⟩ | ⟨rfl, rfl, rfl, rfl, rfl⟩ | ⟨rfl, rfl, rfl, rfl, rfl⟩ <;> simp
    subst hr
    rcases key with rfl | ⟨rfl, rfl⟩ | ⟨rfl, rfl, rfl⟩ | ⟨rfl, rfl, rfl, rfl, rfl⟩ | ⟨rfl, rfl, rfl, rfl, rfl⟩
    ·
     refine zR 57 (S := fun W => W.cell? ⟨wr.heap.size, 0, none⟩ = some (.int .i64 ef) ∧ W.cell? ⟨wr.heap.size, 1, none⟩ = some (.int .i64 et) ∧ W.cell? ⟨wr.heap.size, 2, none⟩ = some (.int .i64 en) ∧ W.cell? ⟨wr.heap.size, 3, none⟩ = some (.bool el) ∧ W.cell? ⟨wr.heap.size, 4, none⟩ = some (.int .i64 s0) ∧ W.cell? ⟨wr.heap.size, 5, none⟩ = some (.int .i64 lo) ∧ W.cell? ⟨wr.heap.size, 6, none⟩ = some (.int .i64 hi') ∧ W.cell? ⟨w.heap.size, 3, none⟩ = some (.slice (some ⟨b, off, none⟩) es.length c4) ∧ W.cell? ⟨w.heap.size + 1, 0, none⟩ = some (.int .i64 srcs)) (by kernel_rfl) (by kernel_rfl) rfl (HS5.out _ HWD.out) (fun hHeld => ?_)
     try simp only [List.reduceReplicate]
     repeat (first
      | refine takeA [] (h := ?_)
      | (refine callA [] (args := ?_) (R := ?_) (he := ?_) (hc := ?_) (hargs := ?_) (h := ?_)
         rotate_left 2
         first | (exact E88.out; exact HV1.out _; rfl; rintro e wz ⟨rfl, rfl⟩; refine .inl ⟨_, rfl, by assumption, fun hHeld => ?_⟩) | (exact E88.out; exact HV2.out _; rfl; rintro e wz ⟨rfl, rfl⟩; refine .inl ⟨_, rfl, by assumption, fun hHeld => ?_⟩) | (exact E88.out; exact HV3.out _; rfl; rintro e wz ⟨rfl, rfl⟩; refine .inl ⟨_, rfl, by assumption, fun hHeld => ?_⟩) | (exact E151.out; exact HT.out _; rfl; rintro e wz ⟨rfl, hbz⟩; refine .inl ⟨_, rfl, HS5.out _ (HWD.out.trans (hbz.mono HWD.out.size)), fun hHeld => ?_⟩; replace HWD := zH (HWD.out.trans (hbz.mono HWD.out.size)); clear hbz) | (exact E79.out; exact HE.out _; rfl; rintro e wz ⟨rfl, hbz⟩; refine .inl ⟨_, rfl, HS5.out _ (HWD.out.trans (hbz.mono HWD.out.size)), fun hHeld => ?_⟩; replace HWD := zH (HWD.out.trans (hbz.mono HWD.out.size)); clear hbz)
         refine normA (h := ?_)))
     refine wpAnyH_done (by kernel_rfl) ?_ _
     go_wp2
     go_ret
     exact ⟨rfl, HD.out.2.2.2.2.1.trans ((HD.out.2.2.2.2.2.2.trans (HWD.out.mono HD.out.2.2.2.2.2.2.size)).mono HD.out.2.2.2.2.1.size)⟩
    ·
     refine zR 57 (S := fun W => W.cell? ⟨wr.heap.size, 0, none⟩ = some (.int .i64 ef) ∧ W.cell? ⟨wr.heap.size, 1, none⟩ = some (.int .i64 et) ∧ W.cell? ⟨wr.heap.size, 2, none⟩ = some (.int .i64 en) ∧ W.cell? ⟨wr.heap.size, 3, none⟩ = some (.bool el) ∧ W.cell? ⟨wr.heap.size, 4, none⟩ = some (.int .i64 s0) ∧ W.cell? ⟨wr.heap.size, 5, none⟩ = some (.int .i64 lo) ∧ W.cell? ⟨wr.heap.size, 6, none⟩ = some (.int .i64 hi') ∧ W.cell? ⟨w.heap.size, 3, none⟩ = some (.slice (some ⟨b, off, none⟩) es.length c4) ∧ W.cell? ⟨w.heap.size + 1, 0, none⟩ = some (.int .i64 srcs)) (by kernel_rfl) (by kernel_rfl) rfl (HS5.out _ HWD.out) (fun hHeld => ?_)
     try simp only [List.reduceReplicate]
     repeat (first
      | refine takeA [] (h := ?_)
      | (refine callA [] (args := ?_) (R := ?_) (he := ?_) (hc := ?_) (hargs := ?_) (h := ?_)
         rotate_left 2
         first | (exact E88.out; exact HV1.out _; rfl; rintro e wz ⟨rfl, rfl⟩; refine .inl ⟨_, rfl, by assumption, fun hHeld => ?_⟩) | (exact E88.out; exact HV2.out _; rfl; rintro e wz ⟨rfl, rfl⟩; refine .inl ⟨_, rfl, by assumption, fun hHeld => ?_⟩) | (exact E88.out; exact HV3.out _; rfl; rintro e wz ⟨rfl, rfl⟩; refine .inl ⟨_, rfl, by assumption, fun hHeld => ?_⟩) | (exact E151.out; exact HT.out _; rfl; rintro e wz ⟨rfl, hbz⟩; refine .inl ⟨_, rfl, HS5.out _ (HWD.out.trans (hbz.mono HWD.out.size)), fun hHeld => ?_⟩; replace HWD := zH (HWD.out.trans (hbz.mono HWD.out.size)); clear hbz) | (exact E79.out; exact HE.out _; rfl; rintro e wz ⟨rfl, hbz⟩; refine .inl ⟨_, rfl, HS5.out _ (HWD.out.trans (hbz.mono HWD.out.size)), fun hHeld => ?_⟩; replace HWD := zH (HWD.out.trans (hbz.mono HWD.out.size)); clear hbz)
         refine normA (h := ?_)))
     refine wpAnyH_done (by kernel_rfl) ?_ _
     go_wp2
     go_ret
     exact ⟨rfl, HD.out.2.2.2.2.1.trans ((HD.out.2.2.2.2.2.2.trans (HWD.out.mono HD.out.2.2.2.2.2.2.size)).mono HD.out.2.2.2.2.1.size)⟩
    ·
     refine zR 57 (S := fun W => W.cell? ⟨wr.heap.size, 0, none⟩ = some (.int .i64 ef) ∧ W.cell? ⟨wr.heap.size, 1, none⟩ = some (.int .i64 et) ∧ W.cell? ⟨wr.heap.size, 2, none⟩ = some (.int .i64 en) ∧ W.cell? ⟨wr.heap.size, 3, none⟩ = some (.bool el) ∧ W.cell? ⟨wr.heap.size, 4, none⟩ = some (.int .i64 s0) ∧ W.cell? ⟨wr.heap.size, 5, none⟩ = some (.int .i64 lo) ∧ W.cell? ⟨wr.heap.size, 6, none⟩ = some (.int .i64 hi') ∧ W.cell? ⟨w.heap.size, 3, none⟩ = some (.slice (some ⟨b, off, none⟩) es.length c4) ∧ W.cell? ⟨w.heap.size + 1, 0, none⟩ = some (.int .i64 srcs)) (by kernel_rfl) (by kernel_rfl) rfl (HS5.out _ HWD.out) (fun hHeld => ?_)
     try simp only [List.reduceReplicate]
     repeat (first
      | refine takeA [] (h := ?_)
      | (refine callA [] (args := ?_) (R := ?_) (he := ?_) (hc := ?_) (hargs := ?_) (h := ?_)
         rotate_left 2
         first | (exact E88.out; exact HV1.out _; rfl; rintro e wz ⟨rfl, rfl⟩; refine .inl ⟨_, rfl, by assumption, fun hHeld => ?_⟩) | (exact E88.out; exact HV2.out _; rfl; rintro e wz ⟨rfl, rfl⟩; refine .inl ⟨_, rfl, by assumption, fun hHeld => ?_⟩) | (exact E88.out; exact HV3.out _; rfl; rintro e wz ⟨rfl, rfl⟩; refine .inl ⟨_, rfl, by assumption, fun hHeld => ?_⟩) | (exact E151.out; exact HT.out _; rfl; rintro e wz ⟨rfl, hbz⟩; refine .inl ⟨_, rfl, HS5.out _ (HWD.out.trans (hbz.mono HWD.out.size)), fun hHeld => ?_⟩; replace HWD := zH (HWD.out.trans (hbz.mono HWD.out.size)); clear hbz) | (exact E79.out; exact HE.out _; rfl; rintro e wz ⟨rfl, hbz⟩; refine .inl ⟨_, rfl, HS5.out _ (HWD.out.trans (hbz.mono HWD.out.size)), fun hHeld => ?_⟩; replace HWD := zH (HWD.out.trans (hbz.mono HWD.out.size)); clear hbz)
         refine normA (h := ?_)))
     refine wpAnyH_done (by kernel_rfl) ?_ _
     go_wp2
     go_ret
     exact ⟨rfl, HD.out.2.2.2.2.1.trans ((HD.out.2.2.2.2.2.2.trans (HWD.out.mono HD.out.2.2.2.2.2.2.size)).mono HD.out.2.2.2.2.1.size)⟩
    ·
     refine zR 57 (S := fun W => W.cell? ⟨wr.heap.size, 0, none⟩ = some (.int .i64 ef) ∧ W.cell? ⟨wr.heap.size, 1, none⟩ = some (.int .i64 et) ∧ W.cell? ⟨wr.heap.size, 2, none⟩ = some (.int .i64 en) ∧ W.cell? ⟨wr.heap.size, 3, none⟩ = some (.bool true) ∧ W.cell? ⟨wr.heap.size, 4, none⟩ = some (.int .i64 s0) ∧ W.cell? ⟨wr.heap.size, 5, none⟩ = some (.int .i64 lo) ∧ W.cell? ⟨wr.heap.size, 6, none⟩ = some (.int .i64 hi') ∧ W.cell? ⟨w.heap.size, 3, none⟩ = some (.slice (some ⟨b, off, none⟩) es.length c4) ∧ W.cell? ⟨w.heap.size + 1, 0, none⟩ = some (.int .i64 srcs)) (by kernel_rfl) (by kernel_rfl) rfl (HS5.out _ HWD.out) (fun hHeld => ?_)
     try simp only [List.reduceReplicate]
     repeat (first
      | refine takeA [] (h := ?_)
      | (refine callA [] (args := ?_) (R := ?_) (he := ?_) (hc := ?_) (hargs := ?_) (h := ?_)
         rotate_left 2
         first | (exact E88.out; exact HV1.out _; rfl; rintro e wz ⟨rfl, rfl⟩; refine .inl ⟨_, rfl, by assumption, fun hHeld => ?_⟩) | (exact E88.out; exact HV2.out _; rfl; rintro e wz ⟨rfl, rfl⟩; refine .inl ⟨_, rfl, by assumption, fun hHeld => ?_⟩) | (exact E88.out; exact HV3.out _; rfl; rintro e wz ⟨rfl, rfl⟩; refine .inl ⟨_, rfl, by assumption, fun hHeld => ?_⟩) | (exact E151.out; exact HT.out _; rfl; rintro e wz ⟨rfl, hbz⟩; refine .inl ⟨_, rfl, HS5.out _ (HWD.out.trans (hbz.mono HWD.out.size)), fun hHeld => ?_⟩; replace HWD := zH (HWD.out.trans (hbz.mono HWD.out.size)); clear hbz) | (exact E79.out; exact HE.out _; rfl; rintro e wz ⟨rfl, hbz⟩; refine .inl ⟨_, rfl, HS5.out _ (HWD.out.trans (hbz.mono HWD.out.size)), fun hHeld => ?_⟩; replace HWD := zH (HWD.out.trans (hbz.mono HWD.out.size)); clear hbz)
         refine normA (h := ?_)))
     refine wpAnyH_done (by kernel_rfl) ?_ _
     go_wp2
     go_ret
     exact ⟨rfl, HD.out.2.2.2.2.1.trans ((HD.out.2.2.2.2.2.2.trans (HWD.out.mono HD.out.2.2.2.2.2.2.size)).mono HD.out.2.2.2.2.1.size)⟩
    ·
     refine zR 57 (S := fun W => W.cell? ⟨wr.heap.size, 0, none⟩ = some (.int .i64 ef) ∧ W.cell? ⟨wr.heap.size, 1, none⟩ = some (.int .i64 et) ∧ W.cell? ⟨wr.heap.size, 2, none⟩ = some (.int .i64 en) ∧ W.cell? ⟨wr.heap.size, 3, none⟩ = some (.bool false) ∧ W.cell? ⟨wr.heap.size, 4, none⟩ = some (.int .i64 s0) ∧ W.cell? ⟨wr.heap.size, 5, none⟩ = some (.int .i64 lo) ∧ W.cell? ⟨wr.heap.size, 6, none⟩ = some (.int .i64 hi') ∧ W.cell? ⟨w.heap.size, 3, none⟩ = some (.slice (some ⟨b, off, none⟩) es.length c4) ∧ W.cell? ⟨w.heap.size + 1, 0, none⟩ = some (.int .i64 srcs)) (by kernel_rfl) (by kernel_rfl) rfl (HS5.out _ HWD.out) (fun hHeld => ?_)
     try simp only [List.reduceReplicate]
     repeat (first
      | refine takeA [] (h := ?_)
      | (refine callA [] (args := ?_) (R := ?_) (he := ?_) (hc := ?_) (hargs := ?_) (h := ?_)
         rotate_left 2
         first | (exact E88.out; exact HV1.out _; rfl; rintro e wz ⟨rfl, rfl⟩; refine .inl ⟨_, rfl, by assumption, fun hHeld => ?_⟩) | (exact E88.out; exact HV2.out _; rfl; rintro e wz ⟨rfl, rfl⟩; refine .inl ⟨_, rfl, by assumption, fun hHeld => ?_⟩) | (exact E88.out; exact HV3.out _; rfl; rintro e wz ⟨rfl, rfl⟩; refine .inl ⟨_, rfl, by assumption, fun hHeld => ?_⟩) | (exact E151.out; exact HT.out _; rfl; rintro e wz ⟨rfl, hbz⟩; refine .inl ⟨_, rfl, HS5.out _ (HWD.out.trans (hbz.mono HWD.out.size)), fun hHeld => ?_⟩; replace HWD := zH (HWD.out.trans (hbz.mono HWD.out.size)); clear hbz) | (exact E79.out; exact HE.out _; rfl; rintro e wz ⟨rfl, hbz⟩; refine .inl ⟨_, rfl, HS5.out _ (HWD.out.trans (hbz.mono HWD.out.size)), fun hHeld => ?_⟩; replace HWD := zH (HWD.out.trans (hbz.mono HWD.out.size)); clear hbz)
         refine normA (h := ?_)))
     refine wpAnyH_done (by kernel_rfl) ?_ _
     go_wp2
     go_ret
     exact ⟨rfl, HD.out.2.2.2.2.1.trans ((HD.out.2.2.2.2.2.2.trans (HWD.out.mono HD.out.2.2.2.2.2.2.size)).mono HD.out.2.2.2.2.1.size)⟩
   ·have hgo : edgeGood srcs ts.length ⟨ef, et, en, el, ⟨s0, lo, hi'⟩⟩ = true := by
     rw [HD.out.2.1]
     rcases key with ⟨rfl, rfl, rfl, rfl, rfl⟩ | ⟨rfl, rfl, rfl, rfl, rfl⟩ <;> rfl
    have hdr : r = ((match prevAt es k with | none => true | some u => decide (edgeOrd u ⟨ef, et, en, el, ⟨s0, lo, hi'⟩⟩ < 0)) && edgesFrom srcs ts.length (prevAt es (k + 1)) (es.drop (k + 1))) := by
     rw [HD.out.1, ← HD.out.2.1, hgo, Bool.true_and]
     rfl
    by_cases hk : k = 0
    ·subst hk
     have hdr : r = edgesFrom srcs ts.length (prevAt es 1) (es.drop 1) := hdr
     have HX := zH (zA hdr (show ∀ u, prevAt es 1 = some u → edgeGood srcs ts.length u = true from fun u hu => by
      rw [prevAt_succ HD.out.2.2.2.2.2.1] at hu; injection hu with hu; rw [← hu]; exact hgo))
     clear hdr hgo
     rcases key with ⟨rfl, rfl, rfl, rfl, rfl⟩ | ⟨rfl, rfl, rfl, rfl, rfl⟩
     ·
      refine zR 57 (S := fun W => W.cell? ⟨wr.heap.size, 0, none⟩ = some (.int .i64 ef) ∧ W.cell? ⟨wr.heap.size, 1, none⟩ = some (.int .i64 et) ∧ W.cell? ⟨wr.heap.size, 2, none⟩ = some (.int .i64 en) ∧ W.cell? ⟨wr.heap.size, 3, none⟩ = some (.bool true) ∧ W.cell? ⟨wr.heap.size, 4, none⟩ = some (.int .i64 s0) ∧ W.cell? ⟨wr.heap.size, 5, none⟩ = some (.int .i64 lo) ∧ W.cell? ⟨wr.heap.size, 6, none⟩ = some (.int .i64 hi') ∧ W.cell? ⟨w.heap.size, 3, none⟩ = some (.slice (some ⟨b, off, none⟩) es.length c4) ∧ W.cell? ⟨w.heap.size + 1, 0, none⟩ = some (.int .i64 srcs)) (by kernel_rfl) (by kernel_rfl) rfl (HS5.out _ HWD.out) (fun hHeld => ?_)
      try simp only [List.reduceReplicate]
      repeat (first
       | refine takeA [] (h := ?_)
       | (refine callA [] (args := ?_) (R := ?_) (he := ?_) (hc := ?_) (hargs := ?_) (h := ?_)
          rotate_left 2
          first | (exact E88.out; exact HV1.out _; rfl; rintro e wz ⟨rfl, rfl⟩; refine .inl ⟨_, rfl, by assumption, fun hHeld => ?_⟩) | (exact E88.out; exact HV2.out _; rfl; rintro e wz ⟨rfl, rfl⟩; refine .inl ⟨_, rfl, by assumption, fun hHeld => ?_⟩) | (exact E88.out; exact HV3.out _; rfl; rintro e wz ⟨rfl, rfl⟩; refine .inl ⟨_, rfl, by assumption, fun hHeld => ?_⟩) | (exact E151.out; exact HT.out _; rfl; rintro e wz ⟨rfl, hbz⟩; refine .inl ⟨_, rfl, HS5.out _ (HWD.out.trans (hbz.mono HWD.out.size)), fun hHeld => ?_⟩; replace HWD := zH (HWD.out.trans (hbz.mono HWD.out.size)); clear hbz) | (exact E79.out; exact HE.out _; rfl; rintro e wz ⟨rfl, hbz⟩; refine .inl ⟨_, rfl, HS5.out _ (HWD.out.trans (hbz.mono HWD.out.size)), fun hHeld => ?_⟩; replace HWD := zH (HWD.out.trans (hbz.mono HWD.out.size)); clear hbz)
          refine normA (h := ?_)))
      refine wpAnyH_done (by kernel_rfl) ?_ _
      go_wp2
      go_roundw
      case rel => exact ⟨1, by go_num, by omega, HX.out.1.symm, HX.out.2, HD.out.2.2.2.1.trans ((HD.out.2.2.2.2.2.2.trans (HWD.out.mono HD.out.2.2.2.2.2.2.size)).mono HD.out.2.2.2.1.size)⟩
      case measure => simp [intOf]; omega
     ·
      refine zR 57 (S := fun W => W.cell? ⟨wr.heap.size, 0, none⟩ = some (.int .i64 ef) ∧ W.cell? ⟨wr.heap.size, 1, none⟩ = some (.int .i64 et) ∧ W.cell? ⟨wr.heap.size, 2, none⟩ = some (.int .i64 en) ∧ W.cell? ⟨wr.heap.size, 3, none⟩ = some (.bool false) ∧ W.cell? ⟨wr.heap.size, 4, none⟩ = some (.int .i64 s0) ∧ W.cell? ⟨wr.heap.size, 5, none⟩ = some (.int .i64 lo) ∧ W.cell? ⟨wr.heap.size, 6, none⟩ = some (.int .i64 hi') ∧ W.cell? ⟨w.heap.size, 3, none⟩ = some (.slice (some ⟨b, off, none⟩) es.length c4) ∧ W.cell? ⟨w.heap.size + 1, 0, none⟩ = some (.int .i64 srcs)) (by kernel_rfl) (by kernel_rfl) rfl (HS5.out _ HWD.out) (fun hHeld => ?_)
      try simp only [List.reduceReplicate]
      repeat (first
       | refine takeA [] (h := ?_)
       | (refine callA [] (args := ?_) (R := ?_) (he := ?_) (hc := ?_) (hargs := ?_) (h := ?_)
          rotate_left 2
          first | (exact E88.out; exact HV1.out _; rfl; rintro e wz ⟨rfl, rfl⟩; refine .inl ⟨_, rfl, by assumption, fun hHeld => ?_⟩) | (exact E88.out; exact HV2.out _; rfl; rintro e wz ⟨rfl, rfl⟩; refine .inl ⟨_, rfl, by assumption, fun hHeld => ?_⟩) | (exact E88.out; exact HV3.out _; rfl; rintro e wz ⟨rfl, rfl⟩; refine .inl ⟨_, rfl, by assumption, fun hHeld => ?_⟩) | (exact E151.out; exact HT.out _; rfl; rintro e wz ⟨rfl, hbz⟩; refine .inl ⟨_, rfl, HS5.out _ (HWD.out.trans (hbz.mono HWD.out.size)), fun hHeld => ?_⟩; replace HWD := zH (HWD.out.trans (hbz.mono HWD.out.size)); clear hbz) | (exact E79.out; exact HE.out _; rfl; rintro e wz ⟨rfl, hbz⟩; refine .inl ⟨_, rfl, HS5.out _ (HWD.out.trans (hbz.mono HWD.out.size)), fun hHeld => ?_⟩; replace HWD := zH (HWD.out.trans (hbz.mono HWD.out.size)); clear hbz)
          refine normA (h := ?_)))
      refine wpAnyH_done (by kernel_rfl) ?_ _
      go_wp2
      go_roundw
      case rel => exact ⟨1, by go_num, by omega, HX.out.1.symm, HX.out.2, HD.out.2.2.2.1.trans ((HD.out.2.2.2.2.2.2.trans (HWD.out.mono HD.out.2.2.2.2.2.2.size)).mono HD.out.2.2.2.1.size)⟩
      case measure => simp [intOf]; omega
    ·obtain ⟨p, hp⟩ : ∃ p, p = k - 1 := ⟨_, rfl⟩
     obtain rfl : k = p + 1 := by omega
     have hxp := List.getElem?_eq_getElem (show p < es.length by omega)
     generalize es[p] = u at hxp
     have hug := HD.out.2.2.1 u (prevAt_succ hxp)
     rw [prevAt_succ hxp] at hdr
     have hus := edgeGood_small hug HS.out.2 h12
     have hxs := edgeGood_small hgo HS.out.2 h12
     obtain ⟨pf, pt, pn, pl, ps, po, ph⟩ := u
     unfold smallT at hus hxs
     dsimp only at hus hxs
     have hord := fun W => edges_any ⟨pf, pt, pn, pl, ⟨ps, po, ph⟩⟩ ⟨ef, et, en, el, ⟨s0, lo, hi'⟩⟩ W (by simp only [edgeSm, small1]; omega) (by simp only [edgeSm, small1]; omega)
     obtain ⟨o, ho⟩ : ∃ o, o = edgeOrd ⟨pf, pt, pn, pl, ⟨ps, po, ph⟩⟩ ⟨ef, et, en, el, ⟨s0, lo, hi'⟩⟩ := ⟨_, rfl⟩
     simp only [← ho] at hord
     have hdr : r = (decide (o < 0) && edgesFrom srcs ts.length (prevAt es (p + 1 + 1)) (es.drop (p + 1 + 1))) := by rw [hdr, ho]
     obtain ⟨b', off', he', _, hcp⟩ := rd_at (HA.out.follow.below HD.out.2.2.2.2.1) hxp
     injection he' with he'
     injection he' with e1 e2
     subst e1; subst e2
     have z0 : wr.cell? ⟨b, off + p * 7, none⟩ = some (.int .i64 pf) := hcp 0 _ rfl
     have z1 := hcp 1 _ rfl
     have z2 := hcp 2 _ rfl
     have z3 := hcp 3 _ rfl
     have z4 := hcp 4 _ rfl
     have z5 := hcp 5 _ rfl
     have z6 := hcp 6 _ rfl
     have hb5 := HD.out.2.2.2.2.2.2
     replace HS5 := zH (show ∀ W, Below w5.heap.size w5 W → W.cell? ⟨wr.heap.size, 0, none⟩ = some (.int .i64 ef) ∧ W.cell? ⟨wr.heap.size, 1, none⟩ = some (.int .i64 et) ∧ W.cell? ⟨wr.heap.size, 2, none⟩ = some (.int .i64 en) ∧ W.cell? ⟨wr.heap.size, 3, none⟩ = some (.bool el) ∧ W.cell? ⟨wr.heap.size, 4, none⟩ = some (.int .i64 s0) ∧ W.cell? ⟨wr.heap.size, 5, none⟩ = some (.int .i64 lo) ∧ W.cell? ⟨wr.heap.size, 6, none⟩ = some (.int .i64 hi') ∧ W.cell? ⟨w.heap.size, 3, none⟩ = some (.slice (some ⟨b, off, none⟩) es.length c4) ∧ W.cell? ⟨w.heap.size + 1, 0, none⟩ = some (.int .i64 srcs) ∧ W.cell? ⟨b, off + p * 7, none⟩ = some (.int .i64 pf) ∧ W.cell? ⟨b, off + p * 7 + 1, none⟩ = some (.int .i64 pt) ∧ W.cell? ⟨b, off + p * 7 + 2, none⟩ = some (.int .i64 pn) ∧ W.cell? ⟨b, off + p * 7 + 3, none⟩ = some (.bool pl) ∧ W.cell? ⟨b, off + p * 7 + 4, none⟩ = some (.int .i64 ps) ∧ W.cell? ⟨b, off + p * 7 + 5, none⟩ = some (.int .i64 po) ∧ W.cell? ⟨b, off + p * 7 + 6, none⟩ = some (.int .i64 ph) from fun W hW => by
      obtain ⟨k0, k1, k2, k3, k4, k5, k6, k7, k8⟩ := HS5.out W hW
      have hW := hb5.trans (hW.mono hb5.size)
      exact ⟨k0, k1, k2, k3, k4, k5, k6, k7, k8, zB hW z0, zB hW z1, zB hW z2, zB hW z3, zB hW z4, zB hW z5, zB hW z6⟩)
     have HE := zH hord
     have HX := zH (zA hdr (show ∀ u, prevAt es (p + 1 + 1) = some u → edgeGood srcs ts.length u = true from fun u hu => by
      rw [prevAt_succ HD.out.2.2.2.2.2.1] at hu; injection hu with hu; rw [← hu]; exact hgo))
     have hwp : IntKind.i64.wrap (((p + 1 : Nat) : Int) - 1) = (p : Int) := by rw [Go.IntWalk.i64_in _ (by omega)]; omega
     have hwp' : IntKind.i64.wrap ((p : Int) + 1 - 1) = (p : Int) := by rw [Go.IntWalk.i64_in _ (by omega)]; omega
     have hwp2 : IntKind.i64.wrap (p : Int) = (p : Int) := Go.IntWalk.i64_in _ (by omega)
     have n2 : (p : Int) < (es.length : Int) := by omega
     have n3 : (0 : Int) < ((p + 1 : Nat) : Int) := by omega
     have n3' : (0 : Int) < (p : Int) + 1 := by omega
     obtain ⟨q, hq⟩ : ∃ q, q = decide (0 ≤ o) := ⟨_, rfl⟩
     have hq' : decide (0 ≤ o) = q := hq.symm
     have HQ := zH hq
     clear hq hdr hgo hxp hug hus hxs hord ho hcp z0 z1 z2 z3 z4 z5 z6 hb5 hp
     rcases key with ⟨rfl, rfl, rfl, rfl, rfl⟩ | ⟨rfl, rfl, rfl, rfl, rfl⟩
     ·
      refine zR 57 (S := fun W => W.cell? ⟨wr.heap.size, 0, none⟩ = some (.int .i64 ef) ∧ W.cell? ⟨wr.heap.size, 1, none⟩ = some (.int .i64 et) ∧ W.cell? ⟨wr.heap.size, 2, none⟩ = some (.int .i64 en) ∧ W.cell? ⟨wr.heap.size, 3, none⟩ = some (.bool true) ∧ W.cell? ⟨wr.heap.size, 4, none⟩ = some (.int .i64 s0) ∧ W.cell? ⟨wr.heap.size, 5, none⟩ = some (.int .i64 lo) ∧ W.cell? ⟨wr.heap.size, 6, none⟩ = some (.int .i64 hi') ∧ W.cell? ⟨w.heap.size, 3, none⟩ = some (.slice (some ⟨b, off, none⟩) es.length c4) ∧ W.cell? ⟨w.heap.size + 1, 0, none⟩ = some (.int .i64 srcs) ∧ W.cell? ⟨b, off + p * 7, none⟩ = some (.int .i64 pf) ∧ W.cell? ⟨b, off + p * 7 + 1, none⟩ = some (.int .i64 pt) ∧ W.cell? ⟨b, off + p * 7 + 2, none⟩ = some (.int .i64 pn) ∧ W.cell? ⟨b, off + p * 7 + 3, none⟩ = some (.bool pl) ∧ W.cell? ⟨b, off + p * 7 + 4, none⟩ = some (.int .i64 ps) ∧ W.cell? ⟨b, off + p * 7 + 5, none⟩ = some (.int .i64 po) ∧ W.cell? ⟨b, off + p * 7 + 6, none⟩ = some (.int .i64 ph)) (by kernel_rfl) (by kernel_rfl) rfl (HS5.out _ HWD.out) (fun hHeld => ?_)
      try simp only [List.reduceReplicate]
      repeat (first
       | refine takeA [] (h := ?_)
       | (refine callA [] (args := ?_) (R := ?_) (he := ?_) (hc := ?_) (hargs := ?_) (h := ?_)
          rotate_left 2
          first | (exact E88.out; exact HV1.out _; rfl; rintro e wz ⟨rfl, rfl⟩; refine .inl ⟨_, rfl, by assumption, fun hHeld => ?_⟩) | (exact E88.out; exact HV2.out _; rfl; rintro e wz ⟨rfl, rfl⟩; refine .inl ⟨_, rfl, by assumption, fun hHeld => ?_⟩) | (exact E88.out; exact HV3.out _; rfl; rintro e wz ⟨rfl, rfl⟩; refine .inl ⟨_, rfl, by assumption, fun hHeld => ?_⟩) | (exact E151.out; exact HT.out _; rfl; rintro e wz ⟨rfl, hbz⟩; refine .inl ⟨_, rfl, HS5.out _ (HWD.out.trans (hbz.mono HWD.out.size)), fun hHeld => ?_⟩; replace HWD := zH (HWD.out.trans (hbz.mono HWD.out.size)); clear hbz) | (exact E79.out; exact HE.out _; rfl; rintro e wz ⟨rfl, hbz⟩; refine .inl ⟨_, rfl, HS5.out _ (HWD.out.trans (hbz.mono HWD.out.size)), fun hHeld => ?_⟩; replace HWD := zH (HWD.out.trans (hbz.mono HWD.out.size)); clear hbz)
          refine normA (h := ?_)))
      refine wpAnyH_done (by kernel_rfl) ?_ _
      clear hHeld hnq hwp hwp' hwp2 hsw hq'
      cases q with
      | true =>
       have h0 : 0 ≤ o := of_decide_eq_true HQ.out.symm
       have hr : r = false := by rw [HX.out.1, decide_eq_false (by omega)]; rfl
       subst hr
       clear h0
       set_option maxRecDepth 1000000 in
       go_wp2
       go_ret
       exact ⟨rfl, HD.out.2.2.2.2.1.trans ((HD.out.2.2.2.2.2.2.trans (HWD.out.mono HD.out.2.2.2.2.2.2.size)).mono HD.out.2.2.2.2.1.size)⟩
      | false =>
       have h0 : ¬ 0 ≤ o := of_decide_eq_false HQ.out.symm
       have hr : r = edgesFrom srcs ts.length (prevAt es (p + 1 + 1)) (es.drop (p + 1 + 1)) := by rw [HX.out.1, decide_eq_true (by omega)]; rfl
       have HX2 := zH hr
       clear hr h0
       go_wp2
       go_roundw
       case rel => exact ⟨p + 1 + 1, by go_num, by omega, HX2.out.symm, HX.out.2, HD.out.2.2.2.1.trans ((HD.out.2.2.2.2.2.2.trans (HWD.out.mono HD.out.2.2.2.2.2.2.size)).mono HD.out.2.2.2.1.size)⟩
       case measure => simp [intOf]; omega
     ·
      refine zR 57 (S := fun W => W.cell? ⟨wr.heap.size, 0, none⟩ = some (.int .i64 ef) ∧ W.cell? ⟨wr.heap.size, 1, none⟩ = some (.int .i64 et) ∧ W.cell? ⟨wr.heap.size, 2, none⟩ = some (.int .i64 en) ∧ W.cell? ⟨wr.heap.size, 3, none⟩ = some (.bool false) ∧ W.cell? ⟨wr.heap.size, 4, none⟩ = some (.int .i64 s0) ∧ W.cell? ⟨wr.heap.size, 5, none⟩ = some (.int .i64 lo) ∧ W.cell? ⟨wr.heap.size, 6, none⟩ = some (.int .i64 hi') ∧ W.cell? ⟨w.heap.size, 3, none⟩ = some (.slice (some ⟨b, off, none⟩) es.length c4) ∧ W.cell? ⟨w.heap.size + 1, 0, none⟩ = some (.int .i64 srcs) ∧ W.cell? ⟨b, off + p * 7, none⟩ = some (.int .i64 pf) ∧ W.cell? ⟨b, off + p * 7 + 1, none⟩ = some (.int .i64 pt) ∧ W.cell? ⟨b, off + p * 7 + 2, none⟩ = some (.int .i64 pn) ∧ W.cell? ⟨b, off + p * 7 + 3, none⟩ = some (.bool pl) ∧ W.cell? ⟨b, off + p * 7 + 4, none⟩ = some (.int .i64 ps) ∧ W.cell? ⟨b, off + p * 7 + 5, none⟩ = some (.int .i64 po) ∧ W.cell? ⟨b, off + p * 7 + 6, none⟩ = some (.int .i64 ph)) (by kernel_rfl) (by kernel_rfl) rfl (HS5.out _ HWD.out) (fun hHeld => ?_)
      try simp only [List.reduceReplicate]
      repeat (first
       | refine takeA [] (h := ?_)
       | (refine callA [] (args := ?_) (R := ?_) (he := ?_) (hc := ?_) (hargs := ?_) (h := ?_)
          rotate_left 2
          first | (exact E88.out; exact HV1.out _; rfl; rintro e wz ⟨rfl, rfl⟩; refine .inl ⟨_, rfl, by assumption, fun hHeld => ?_⟩) | (exact E88.out; exact HV2.out _; rfl; rintro e wz ⟨rfl, rfl⟩; refine .inl ⟨_, rfl, by assumption, fun hHeld => ?_⟩) | (exact E88.out; exact HV3.out _; rfl; rintro e wz ⟨rfl, rfl⟩; refine .inl ⟨_, rfl, by assumption, fun hHeld => ?_⟩) | (exact E151.out; exact HT.out _; rfl; rintro e wz ⟨rfl, hbz⟩; refine .inl ⟨_, rfl, HS5.out _ (HWD.out.trans (hbz.mono HWD.out.size)), fun hHeld => ?_⟩; replace HWD := zH (HWD.out.trans (hbz.mono HWD.out.size)); clear hbz) | (exact E79.out; exact HE.out _; rfl; rintro e wz ⟨rfl, hbz⟩; refine .inl ⟨_, rfl, HS5.out _ (HWD.out.trans (hbz.mono HWD.out.size)), fun hHeld => ?_⟩; replace HWD := zH (HWD.out.trans (hbz.mono HWD.out.size)); clear hbz)
          refine normA (h := ?_)))
      refine wpAnyH_done (by kernel_rfl) ?_ _
      clear hHeld hnq hwp hwp' hwp2 hsw hq'
      cases q with
      | true =>
       have h0 : 0 ≤ o := of_decide_eq_true HQ.out.symm
       have hr : r = false := by rw [HX.out.1, decide_eq_false (by omega)]; rfl
       subst hr
       clear h0
       set_option maxRecDepth 1000000 in
       go_wp2
       go_ret
       exact ⟨rfl, HD.out.2.2.2.2.1.trans ((HD.out.2.2.2.2.2.2.trans (HWD.out.mono HD.out.2.2.2.2.2.2.size)).mono HD.out.2.2.2.2.1.size)⟩
      | false =>
       have h0 : ¬ 0 ≤ o := of_decide_eq_false HQ.out.symm
       have hr : r = edgesFrom srcs ts.length (prevAt es (p + 1 + 1)) (es.drop (p + 1 + 1)) := by rw [HX.out.1, decide_eq_true (by omega)]; rfl
       have HX2 := zH hr
       clear hr h0
       go_wp2
       go_roundw
       case rel => exact ⟨p + 1 + 1, by go_num, by omega, HX2.out.symm, HX.out.2, HD.out.2.2.2.1.trans ((HD.out.2.2.2.2.2.2.trans (HWD.out.mono HD.out.2.2.2.2.2.2.size)).mono HD.out.2.2.2.1.size)⟩
       case measure => simp [intOf]; omega
  ·obtain rfl : k = es.length := by omega
   have hr : r = true := by rw [← hi, List.drop_length]; cases prevAt es es.length <;> rfl
   subst hr
   have HX := zH hBw
   clear hi hB hBw hpv
   go_wp2
   go_ret
   exact ⟨rfl, HX.out⟩
end
end Go.Proofs.YtgiploddoffmjaaGreat
