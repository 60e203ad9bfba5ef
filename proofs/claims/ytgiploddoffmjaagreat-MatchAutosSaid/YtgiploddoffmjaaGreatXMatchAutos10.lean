/- My texts, joined: W65, V1. -/
import Derived.Below
import Derived.BigQuiet
import Derived.ChangeKeysEq
import Derived.Deep.AppendLies
import Derived.Deep.CutBlock
import Derived.Deep.DeepCutAuto
import Derived.Deep.LoopGhost
import Derived.Deep.QuietTactic
import Derived.Deep.RegionHeld
import Derived.Deep.RegionHeld3
import Derived.Deep.RegionLaw
import Derived.Defers
import Derived.Ground.Names2Prog
import Derived.Ground.Names8Prog
import Derived.Ground.SlsfProg
import Derived.Handy
import Derived.KernelRfl
import Derived.Laws.AppendOwn
import Derived.Laws.AppendOwnNone
import Derived.Laws.CopyRow
import Derived.Laws.Pointers
import Derived.Laws.StructEq
import Derived.Lib.Hide
import Derived.Lib.Overlaps
import Derived.LoopIn
import Derived.LoopN
import Derived.LoopNIn
import Derived.LoopTactic
import Derived.MapKept
import Derived.Maps.AppendAt
import Derived.Maps.OwnOps
import Derived.Maps.RangeRun
import Derived.Maps.RangeWalk
import Derived.Outline
import Derived.OwnWalk
import Derived.OwnWalkIn
import Derived.RangeFuncBound
import Derived.RangeFuncCalls
import Derived.RangeFuncLeaves
import Derived.RangeFuncNested
import Derived.Recover
import Derived.Shelf.Abstract
import Derived.Shelf.RegionOpen
import Derived.Shelf.SlGeneric
import Derived.Shelf.SlLaysF0
import Derived.Shelf.SlSortCmp.HeapSort1
import Derived.Shelf.SlSortCmp.Insertion
import Derived.Shelf.SlSortCmp.Insertion1
import Derived.Shelf.SlSortCmp.Median1
import Derived.Shelf.SlSortCmp.NoneTotal
import Derived.Shelf.SlSortCmp.PartialInsertion1
import Derived.Shelf.SlSortCmp.Partition1
import Derived.Shelf.SlSortCmp.PartitionEqual1
import Derived.Shelf.SlSortCmp.Pdq1
import Derived.Shelf.SlSortCmp.Pivot1
import Derived.Shelf.SlSortCmp.ReverseRange1
import Derived.Shelf.SlSortCmp.SiftDown1
import Derived.Shelf.SlSortCmp.Whole1
import Derived.Shelf.SlSortCmp.WholeK
import Derived.Shelf.Slices.In.SortNone
import Derived.Shelf.Small.Bits
import Derived.Shelf.Sort.Plain
import Derived.Shelf.Spec.SlicesGrow
import Derived.TacticsInMore
import Derived.Test.YtgiploddoffmjaaGreatProg
import Derived.WalkKit
import Derived.WalkLawsBesides
import Derived.WalkSpells
import Derived.Test.YtgiploddoffmjaaGreatM0
import Derived.Test.YtgiploddoffmjaaGreatM1
import Derived.Test.YtgiploddoffmjaaGreatM2
import Derived.Test.YtgiploddoffmjaaGreatM3
import Derived.Test.YtgiploddoffmjaaGreatM4
import Derived.Test.YtgiploddoffmjaaGreatM5
import Derived.Test.YtgiploddoffmjaaGreatM6
import Derived.Test.YtgiploddoffmjaaGreatM7
import Derived.Test.YtgiploddoffmjaaGreatM8
import Derived.Test.YtgiploddoffmjaaGreatM9
import Derived.Test.YtgiploddoffmjaaGreatM10
import Derived.Test.YtgiploddoffmjaaGreatM11
import Derived.Test.YtgiploddoffmjaaGreatM12
import Derived.Test.YtgiploddoffmjaaGreatM13
import Derived.Test.YtgiploddoffmjaaGreatM14
import Derived.Test.YtgiploddoffmjaaGreatM15
import Derived.Test.YtgiploddoffmjaaGreatM16
import Derived.Test.YtgiploddoffmjaaGreatM17
import Derived.Test.YtgiploddoffmjaaGreatM18
import Derived.Test.YtgiploddoffmjaaGreatM19
import Derived.Test.YtgiploddoffmjaaGreatM20
import Derived.Test.YtgiploddoffmjaaGreatM21
import Derived.Test.YtgiploddoffmjaaGreatM22
import Derived.Test.YtgiploddoffmjaaGreatM23
import Derived.Test.YtgiploddoffmjaaGreatM24
import Derived.Test.YtgiploddoffmjaaGreatM25
import Derived.Test.YtgiploddoffmjaaGreatM26
import Derived.Test.YtgiploddoffmjaaGreatM27
import Derived.Test.YtgiploddoffmjaaGreatXMatchAutos1
import Derived.Test.YtgiploddoffmjaaGreatXMatchAutos2
import Derived.Test.YtgiploddoffmjaaGreatXMatchAutos3
import Derived.Test.YtgiploddoffmjaaGreatXMatchAutos4
import Derived.Test.YtgiploddoffmjaaGreatXMatchAutos5
import Derived.Test.YtgiploddoffmjaaGreatXMatchAutos6
import Derived.Test.YtgiploddoffmjaaGreatXMatchAutos7
import Derived.Test.YtgiploddoffmjaaGreatXMatchAutos8
import Derived.Test.YtgiploddoffmjaaGreatXMatchAutos9
set_option linter.unusedVariables false
set_option linter.unusedSimpArgs false
set_option linter.unusedSectionVars false
set_option maxRecDepth 10000
namespace Go.Proofs.YtgiploddoffmjaaGreat
section
open Go.RowKit Go.Shelf
theorem refAuto_any (lo : Nat) : ∀ (f : Form) (op n : Int) (t : Test) (ks : Pats), shape f op t n ks → KidR lo f op t n ks
 | .one t', op, n, t, ks, hs => by
  obtain ⟨rfl, rfl, rfl, rfl⟩ := hs
  exact refAuto_one lo t 0
 | .thn m a b, op, n, t, ks, hs => by
  obtain ⟨rfl, rfl, rfl, o1, t1, n1, k1, o2, t2, n2, k2, rfl, ha, hb⟩ := hs
  exact refAuto_thn lo a b n o1 n1 o2 n2 zeroT t1 t2 zeroT k1 k2 (refAuto_any lo a _ _ _ _ ha) (refAuto_any lo b _ _ _ _ hb)
 | .or a b, op, n, t, ks, hs => by
  obtain ⟨rfl, rfl, rfl, o1, t1, n1, k1, o2, t2, n2, k2, rfl, ha, hb⟩ := hs
  exact refAuto_or lo a b 0 o1 n1 o2 n2 zeroT t1 t2 zeroT k1 k2 (refAuto_any lo a _ _ _ _ ha) (refAuto_any lo b _ _ _ _ hb)
 | .many m a, op, n, t, ks, hs => by
  obtain ⟨rfl, rfl, rfl, o1, t1, n1, k1, rfl, ha⟩ := hs
  exact refAuto_many lo a n o1 n1 zeroT t1 k1 (refAuto_any lo a _ _ _ _ ha)
 | .lack m a c b, op, n, t, ks, hs => by
  obtain ⟨rfl, rfl, rfl, o1, t1, n1, k1, o2, t2, n2, k2, rfl, ha, hb⟩ := hs
  exact refAuto_lack lo a b n o1 n1 o2 n2 zeroT t1 t2 c k1 k2 (refAuto_any lo a _ _ _ _ ha) (refAuto_any lo b _ _ _ _ hb)
theorem autoP_edgesSm {srcs : Int} {x : Node} (hp : patP srcs x.op x.t x.n x.ks = true) (hs : srcs ≤ 4) : ∀ e ∈ (makeP (formOf x) 0).follow, edgeSm e := fun e he => by
 obtain ⟨⟨h1, h2⟩, h3, h4⟩ := autoP_edges hp e he
 have hsz := makeP_size (formOf x) 0
 have hsm := shape_small hp
 have ht : smallT e.t := by
  rcases h2 with ⟨_, h2⟩ | ⟨_, h2⟩
  ·exact isTest_small h2 hs
  ·rw [h2]; exact zeroT_small
 unfold smallT at ht
 refine ⟨?_, ?_, ?_, ?_, ?_, ?_⟩ <;> unfold small1 <;> omega
theorem AutoW.at_ {w : World} {lo : Nat} {v1 v2 v3 v4 : Value} {au : Auto} (h : AutoW w lo v1 v2 v3 v4 au) : AutoAt w v1 v2 v3 v4 au := ⟨win_rd test_len h.tests, win_rd intC_len h.first, win_rd intC_len h.last, win_rd edge_len h.follow⟩
theorem AutoAt.res {w1 w2 : World} {v1 v2 v3 v4 : Value} {au : Auto} {R : Nat} {ds : Array Value} {lo : Nat} (h : AutoW w1 lo v1 v2 v3 v4 au) (hr : w1.heap[R]? = some (.cells ds 34 (0, 0))) (hg : Fr (fun i => i = R) w1 w2) : AutoW w2 lo v1 v2 v3 v4 au :=
 h.store hr hg
set_option maxHeartbeats 16000000 in
theorem refAutoOf_any (x : Node) (v : Value) (near : Int) (same : Bool) (srcs : Int) (w : World) (hk : RdK w x.ks v) (hp : patP srcs x.op x.t x.n x.ks = true) (hs : srcs ≤ 4) :
 Calls Tryz.prog 86 #[.agg (queryA x v near same)] w fun e w' => ∃ v1 v2 v3 v4, e = .returned (.agg #[v1, v2, v3, v4]) ∧ AutoW w' w.heap.size v1 v2 v3 v4 (autoP x) ∧ Below w.heap.size w w' := by
 obtain ⟨a0, c0, e0, _⟩ := id hk
 have HK := zH hk
 have HP := zH hp
 clear hk hp
 subst e0
 obtain ⟨au, hau⟩ : ∃ au : Auto, au = autoP x := ⟨_, rfl⟩
 rw [← hau]
 have HAU := zH (hau.trans (show autoP x = autoR (formOf x) 0 from (autoR_makeP (formOf x) 0).symm))
 clear hau
 go_enter Tryz.func86, Tryz.ntmps86
 go_wp2_with fail
 refine named_box2 (G := fun W => Calls _ _ _ W _) w _ _ _ _ fun W1 hb1 hz1 hx1 hy1 => ?_
 have hsh := formOf_shape HP.out
 have hsm := shape_small HP.out
 have hsz := makeP_size (formOf x) 0
 have hz1' : W1.heap.size = w.heap.size + 2 := hz1
 refine (refAuto_any w.heap.size (formOf x) x.op x.n x.t x.ks hsh W1 (.slice a0 x.ks.len c0) 0 (HK.out.keep hb1) hb1.size (Int.le_refl 0) (by omega) hsm (autoP_edgesSm HP.out hs)).mono ?_
 rw [← HAU.out]
 rintro e w2 ⟨_, _, _, _, rfl, hau, hb2⟩
 obtain ⟨A1, C1, rfl, _, _⟩ := zS hau.tests
 obtain ⟨A2, C2, rfl, _, _⟩ := zS hau.first
 obtain ⟨A3, C3, rfl, _, _⟩ := zS hau.last
 obtain ⟨A4, C4, rfl, _, _⟩ := zS hau.follow
 have hr2 := (hb2.block (w.heap.size + 1) (by omega)).trans hy1
 have r0 := zC hr2 0
 have r1 := zC hr2 1
 have r2 := zC hr2 2
 have r3 := zC hr2 3
 have fr0 := zK hr2 0
 have fr1 := zK hr2 1
 have fr2 := zK hr2 2
 have fr3 := zK hr2 3
 simp only [List.getElem?_toArray, List.getElem?_cons_zero, List.getElem?_cons_succ] at r0 r1 r2 r3
 have hp4 := put4 hr2 (.slice A1 au.tests.length C1) (.slice A2 au.first.length C2) (.slice A3 au.last.length C3) (.slice A4 au.follow.length C4)
 have H2 := zH (zA hau (zA (hb1.trans (hb2.mono hb1.size)) (zA hr2 hp4)))
 clear hau hb1 hb2 hx1 hy1 hr2 hp4 hsh hsm hsz hz1
 go_wp2
 obtain ⟨hau, hbw, hr2, hp4⟩ := H2.out
 have g0 := zC hp4.1 0
 have g1 := zC hp4.1 1
 have g2 := zC hp4.1 2
 have g3 := zC hp4.1 3
 simp only [List.getElem?_toArray, List.getElem?_cons_zero, List.getElem?_cons_succ] at g0 g1 g2 g3
 exact bodyPost_ret (v := .agg #[(.slice A1 au.tests.length C1), (.slice A2 au.first.length C2), (.slice A3 au.last.length C3), (.slice A4 au.follow.length C4)]) (by simp [results, Tryz.results86, go_sem, g0, g1, g2, g3]) rfl ⟨_, _, _, _, rfl, (AutoAt.res hau hr2 hp4.2).mono (by omega), hbw.trans (zO hp4.2 hbw.size fun i hi => by have h : i = w.heap.size + 1 := hi; omega)⟩
set_option maxHeartbeats 16000000 in
theorem refAuto_out (x : Node) (v : Value) (near : Int) (same : Bool) (srcs : Int) (w : World) (hk : RdK w x.ks v) :
 Calls Tryz.prog 15 #[.agg (queryA x v near same), .int .i64 srcs] w fun e w' => ∃ v1 v2 v3 v4, e = .returned (.tuple #[.agg #[v1, v2, v3, v4], .int .i64 (if queryP srcs x near then 0 else 2)]) ∧ AutoAt w' v1 v2 v3 v4 (if queryP srcs x near then autoP x else ⟨[], [], [], []⟩) ∧ Below w.heap.size w w' := by
 obtain ⟨a0, c0, e0, _⟩ := id hk
 have HS := zH hk
 clear hk
 subst e0
 obtain ⟨r, hr⟩ : ∃ r : Int, r = (if queryP srcs x near then 0 else 2) := ⟨_, rfl⟩
 obtain ⟨au, hau⟩ : ∃ au : Auto, au = (if queryP srcs x near then autoP x else ⟨[], [], [], []⟩) := ⟨_, rfl⟩
 rw [← hr, ← hau]
 have HRA := zH (zA hr hau)
 clear hr hau
 go_enter Tryz.func15, Tryz.ntmps15
 go_wp2_with fail
 refine named_box2 (G := fun W => Calls _ _ _ W _) w _ _ _ _ fun W1 hb1 hz1 hx1 hy1 => ?_
 refine (refQuery_any x (.slice a0 x.ks.len c0) near same srcs W1 (HS.out.below hb1)).mono ?_
 rintro e w2 ⟨rfl, hb2⟩
 have hbw2 : Below w.heap.size w w2 := hb1.trans (hb2.mono hb1.size)
 have hx2 := (hb2.block w.heap.size (by omega)).trans hx1
 have hy2 := (hb2.block (w.heap.size + 1) (by omega)).trans hy1
 have o0 : w2.cell? ⟨w.heap.size + 1, 0, none⟩ = some (.slice none 0 0) := zC hy2 0
 have o1 : w2.cell? ⟨w.heap.size + 1, 1, none⟩ = some (.slice none 0 0) := zC hy2 1
 have o2 : w2.cell? ⟨w.heap.size + 1, 2, none⟩ = some (.slice none 0 0) := zC hy2 2
 have o3 : w2.cell? ⟨w.heap.size + 1, 3, none⟩ = some (.slice none 0 0) := zC hy2 3
 have z0 := zK hy2 0
 have z1 := zK hy2 1
 have z2 := zK hy2 2
 have z3 := zK hy2 3
 cases hq : queryP srcs x near with
 | false =>
  have hp4 := put4 hy2 (.slice none 0 0) (.slice none 0 0) (.slice none 0 0) (.slice none 0 0)
  have HP := zH (zA hp4.2 hbw2)
  have g0 := zC hp4.1 0
  have g1 := zC hp4.1 1
  have g2 := zC hp4.1 2
  have g3 := zC hp4.1 3
  simp only [List.getElem?_toArray, List.getElem?_cons_zero, List.getElem?_cons_succ] at g0 g1 g2 g3
  have HQ := zH hq
  clear hb1 hx1 hy1 hb2 hbw2 hx2 hy2 hp4 hq hz1
  go_wp2
  exact bodyPost_ret (v := .tuple #[.agg #[.slice none 0 0, .slice none 0 0, .slice none 0 0, .slice none 0 0], .int .i64 2]) (by simp [results, Tryz.results15, go_sem, g0, g1, g2, g3]) rfl ⟨_, _, _, _, by rw [HRA.out.1, HQ.out]; rfl, by rw [HRA.out.2, HQ.out, if_neg (by decide)]; exact ⟨Rd.nil _ _ _, Rd.nil _ _ _, Rd.nil _ _ _, Rd.nil _ _ _⟩, HP.out.2.trans (zO HP.out.1 HP.out.2.size fun i hi => by have h : i = w.heap.size + 1 := hi; omega)⟩
 | true =>
  have k0 : w2.cell? ⟨w.heap.size, 0, none⟩ = some (.int .i64 x.op) := zC hx2 0
  have k1 : w2.cell? ⟨w.heap.size, 1, none⟩ = some (.int .i64 x.t.src) := zC hx2 1
  have k2 : w2.cell? ⟨w.heap.size, 2, none⟩ = some (.int .i64 x.t.low) := zC hx2 2
  have k3 : w2.cell? ⟨w.heap.size, 3, none⟩ = some (.int .i64 x.t.high) := zC hx2 3
  have k4 : w2.cell? ⟨w.heap.size, 4, none⟩ = some (.int .i64 x.n) := zC hx2 4
  have k5 : w2.cell? ⟨w.heap.size, 5, none⟩ = some (.slice a0 x.ks.len c0) := zC hx2 5
  have k6 : w2.cell? ⟨w.heap.size, 6, none⟩ = some (.int .i64 near) := zC hx2 6
  have k7 : w2.cell? ⟨w.heap.size, 7, none⟩ = some (.bool same) := zC hx2 7
  have hs : 1 ≤ srcs ∧ srcs ≤ 4 := by
   simp only [queryP, inP, Bool.and_eq_true, decide_eq_true_eq] at hq
   exact hq.1.1
  have hp : patP srcs x.op x.t x.n x.ks = true := by
   simp only [queryP, Bool.and_eq_true] at hq
   exact hq.1.2
  have hcall := refAutoOf_any x (.slice a0 x.ks.len c0) near same srcs w2 (HS.out.below hbw2) hp hs.2
  have HCALL := zH hcall
  have HQ := zH hq
  have HP := zH (zA hbw2 hy2)
  clear hb1 hx1 hy1 hb2 hbw2 hx2 hy2 hq hz1 hs hp hcall o0 o1 o2 o3 z0 z1 z2 z3
  go_wp2_with fail
  refine HCALL.out.mono ?_
  rintro e w3 ⟨_, _, _, _, rfl, hau, hb3⟩
  obtain ⟨A1, C1, rfl, _, _⟩ := zS hau.tests
  obtain ⟨A2, C2, rfl, _, _⟩ := zS hau.first
  obtain ⟨A3, C3, rfl, _, _⟩ := zS hau.last
  obtain ⟨A4, C4, rfl, _, _⟩ := zS hau.follow
  have hr3 := (hb3.block _ (Array.getElem?_eq_some_iff.1 HP.out.2).1).trans HP.out.2
  have r0 := zC hr3 0
  have r1 := zC hr3 1
  have r2 := zC hr3 2
  have r3 := zC hr3 3
  have fr0 := zK hr3 0
  have fr1 := zK hr3 1
  have fr2 := zK hr3 2
  have fr3 := zK hr3 3
  simp only [List.getElem?_toArray, List.getElem?_cons_zero, List.getElem?_cons_succ] at r0 r1 r2 r3
  have hp4 := put4 hr3 (.slice A1 (autoP x).tests.length C1) (.slice A2 (autoP x).first.length C2) (.slice A3 (autoP x).last.length C3) (.slice A4 (autoP x).follow.length C4)
  have H3 := zH (zA hau (zA (HP.out.1.trans (hb3.mono HP.out.1.size)) (zA hr3 hp4)))
  clear hau hb3 hr3 hp4 k0 k1 k2 k3 k4 k5 k6 k7
  go_wp2
  obtain ⟨hau, hbw, hr3, hp4⟩ := H3.out
  have g0 := zC hp4.1 0
  have g1 := zC hp4.1 1
  have g2 := zC hp4.1 2
  have g3 := zC hp4.1 3
  simp only [List.getElem?_toArray, List.getElem?_cons_zero, List.getElem?_cons_succ] at g0 g1 g2 g3
  exact bodyPost_ret (v := .tuple #[.agg #[(.slice A1 (autoP x).tests.length C1), (.slice A2 (autoP x).first.length C2), (.slice A3 (autoP x).last.length C3), (.slice A4 (autoP x).follow.length C4)], .int .i64 0]) (by simp [results, Tryz.results15, go_sem, g0, g1, g2, g3]) rfl ⟨_, _, _, _, by rw [HRA.out.1, HQ.out]; rfl, by rw [HRA.out.2, HQ.out, if_pos rfl]; exact (AutoAt.res hau hr3 hp4.2).at_, hbw.trans (zO hp4.2 hbw.size fun i hi => by have h : i = w.heap.size + 1 := hi; omega)⟩
end
section
open Go.RowKit Go.Shelf
theorem autoP_small (srcs : Int) (x : Node) (near : Int) : smallL (if queryP srcs x near then autoP x else ⟨[], [], [], []⟩ : Auto).first ∧ smallL (if queryP srcs x near then autoP x else ⟨[], [], [], []⟩ : Auto).last := by
 cases hq : queryP srcs x near with
 | false => exact ⟨fun z h => by simp at h, fun z h => by simp at h⟩
 | true =>
  rw [if_pos rfl]
  have hp : patP srcs x.op x.t x.n x.ks = true := by unfold queryP at hq; simp only [Bool.and_eq_true] at hq; exact hq.1.2
  have h1 := makeP_places (formOf x) 0
  have h2 := makeP_size (formOf x) 0
  have h3 := shape_small hp
  exact ⟨fun z h => by have := h1.1 z h; omega, fun z h => by have := h1.2.1 z h; omega⟩
set_option maxRecDepth 100000 in
set_option maxHeartbeats 16000000 in
theorem w_MatchAutos (x : Node) (v : Value) (near : Int) (same : Bool) (srcs : Int) (w : World) (hk : RdK w x.ks v) :
 Calls Tryz.prog 3 #[.agg (queryA x v near same), .int .i64 srcs] w fun e w' => e = .returned (.bool true) ∧ Below w.heap.size w w' := by
 obtain ⟨a0, c0, rfl⟩ : ∃ a c, v = .slice a x.ks.len c := by obtain ⟨a, c, e, _⟩ := hk; exact ⟨a, c, e⟩
 have h1 := fun W (h : Below w.heap.size w W) => auto_out x _ near same srcs W (hk.below h)
 have h2 := fun W (h : Below w.heap.size w W) => refAuto_out x _ near same srcs W (hk.below h)
 have hs := autoP_small srcs x near
 obtain ⟨r, hr⟩ : ∃ r : Int, r = (if queryP srcs x near then 0 else 2) := ⟨_, rfl⟩
 obtain ⟨au, hau⟩ : ∃ au : Auto, au = (if queryP srcs x near then autoP x else ⟨[], [], [], []⟩) := ⟨_, rfl⟩
 rw [← hau] at hs
 rw [← hr, ← hau] at h1 h2
 have H1 := zH h1
 have H2 := zH h2
 have HS := zH hs
 have HB := zH (Below.refl w.heap.size w)
 clear h1 h2 hs hr hau hk
 go_enter Tryz.func3, Tryz.ntmps3
 go_wp2_with fail
 refine zX (G := fun W => Calls _ _ _ W _) w _ _ fun w1 hb hz hx => ?_
 have q0 := zC hx 0
 have q1 := zC hx 1
 have q2 := zC hx 2
 have q3 := zC hx 3
 have q4 := zC hx 4
 have q5 := zC hx 5
 have q6 := zC hx 6
 have q7 := zC hx 7
 clear hx hz
 replace HB := zH (HB.out.trans (hb.mono HB.out.size))
 clear hb
 refine (H1.out _ HB.out).mono ?_
 rintro e w2 ⟨v1, v2, v3, v4, rfl, hau, hb⟩
 replace q0 := zB hb q0
 replace q1 := zB hb q1
 replace q2 := zB hb q2
 replace q3 := zB hb q3
 replace q4 := zB hb q4
 replace q5 := zB hb q5
 replace q6 := zB hb q6
 replace q7 := zB hb q7
 replace HB := zH (HB.out.trans (hb.mono HB.out.size))
 clear hb
 obtain ⟨a1, k1, rfl⟩ : ∃ a c, v1 = .slice a au.tests.length c := by obtain ⟨_, a, c, rfl, _⟩ := hau.tests; exact ⟨a, c, rfl⟩
 obtain ⟨a2, k2, rfl⟩ : ∃ a c, v2 = .slice a au.first.length c := by obtain ⟨_, a, c, rfl, _⟩ := hau.first; exact ⟨a, c, rfl⟩
 obtain ⟨a3, k3, rfl⟩ : ∃ a c, v3 = .slice a au.last.length c := by obtain ⟨_, a, c, rfl, _⟩ := hau.last; exact ⟨a, c, rfl⟩
 obtain ⟨a4, k4, rfl⟩ : ∃ a c, v4 = .slice a au.follow.length c := by obtain ⟨_, a, c, rfl, _⟩ := hau.follow; exact ⟨a, c, rfl⟩
 have HA := zH hau
 clear hau
 go_upto_region 2 with (fail)
 refine zX (G := fun W => Code.wp _ _ _ _ W) w2 _ _ fun w3 hb hz hx => ?_
 have d0 := zC hx 0
 have d1 := zC hx 1
 have d2 := zC hx 2
 have d3 := zC hx 3
 clear hx hz
 replace HA := zH (HA.out.below hb)
 replace q0 := zB hb q0
 replace q1 := zB hb q1
 replace q2 := zB hb q2
 replace q3 := zB hb q3
 replace q4 := zB hb q4
 replace q5 := zB hb q5
 replace q6 := zB hb q6
 replace q7 := zB hb q7
 replace HB := zH (HB.out.trans (hb.mono HB.out.size))
 clear hb
 go_wp2_with fail
 refine (H2.out _ HB.out).mono ?_
 rintro e w4 ⟨u1, u2, u3, u4, rfl, hau, hb⟩
 replace HA := zH (HA.out.below hb)
 replace q0 := zB hb q0
 replace q1 := zB hb q1
 replace q2 := zB hb q2
 replace q3 := zB hb q3
 replace q4 := zB hb q4
 replace q5 := zB hb q5
 replace q6 := zB hb q6
 replace q7 := zB hb q7
 replace d0 := zB hb d0
 replace d1 := zB hb d1
 replace d2 := zB hb d2
 replace d3 := zB hb d3
 replace HB := zH (HB.out.trans (hb.mono HB.out.size))
 clear hb
 obtain ⟨b1, j1, rfl⟩ : ∃ a c, u1 = .slice a au.tests.length c := by obtain ⟨_, a, c, rfl, _⟩ := hau.tests; exact ⟨a, c, rfl⟩
 obtain ⟨b2, j2, rfl⟩ : ∃ a c, u2 = .slice a au.first.length c := by obtain ⟨_, a, c, rfl, _⟩ := hau.first; exact ⟨a, c, rfl⟩
 obtain ⟨b3, j3, rfl⟩ : ∃ a c, u3 = .slice a au.last.length c := by obtain ⟨_, a, c, rfl, _⟩ := hau.last; exact ⟨a, c, rfl⟩
 obtain ⟨b4, j4, rfl⟩ : ∃ a c, u4 = .slice a au.follow.length c := by obtain ⟨_, a, c, rfl, _⟩ := hau.follow; exact ⟨a, c, rfl⟩
 have HU := zH hau
 clear hau
 clear q0
 clear q1
 clear q2
 clear q3
 clear q4
 clear q5
 clear q6
 clear q7
 go_upto_region 3 with (fail)
 refine zX (G := fun W => Code.wp _ _ _ _ W) w4 _ _ fun w5 hb hz hx => ?_
 have g0 := zC hx 0
 have g1 := zC hx 1
 have g2 := zC hx 2
 have g3 := zC hx 3
 clear hx hz
 replace HA := zH (HA.out.below hb)
 replace HU := zH (HU.out.below hb)
 replace d0 := zB hb d0
 replace d1 := zB hb d1
 replace d2 := zB hb d2
 replace d3 := zB hb d3
 replace HB := zH (HB.out.trans (hb.mono HB.out.size))
 clear hb
 go_wp2_with fail
 have hsa := sameAuto_any _ _ _ _ _ _ _ _ au au _ HA.out HU.out HS.out.1 HS.out.1 HS.out.2 HS.out.2
 rw [decide_eq_true (rfl : au = au)] at hsa
 refine (hsa).mono ?_
 rintro e w6 ⟨rfl, hb⟩
 replace HA := zH (HA.out.below hb)
 replace HU := zH (HU.out.below hb)
 replace d0 := zB hb d0
 replace d1 := zB hb d1
 replace d2 := zB hb d2
 replace d3 := zB hb d3
 replace g0 := zB hb g0
 replace g1 := zB hb g1
 replace g2 := zB hb g2
 replace g3 := zB hb g3
 replace HB := zH (HB.out.trans (hb.mono HB.out.size))
 clear hb
 clear hsa
 go_wp2_with fail
 refine (known_law _).mono ?_
 rintro e w7 ⟨rfl, hb⟩
 replace HA := zH (HA.out.below hb)
 replace HU := zH (HU.out.below hb)
 replace d0 := zB hb d0
 replace d1 := zB hb d1
 replace d2 := zB hb d2
 replace d3 := zB hb d3
 replace g0 := zB hb g0
 replace g1 := zB hb g1
 replace g2 := zB hb g2
 replace g3 := zB hb g3
 replace HB := zH (HB.out.trans (hb.mono HB.out.size))
 clear hb
 go_wp2
 go_ret
 exact ⟨rfl, HB.out⟩
end
end Go.Proofs.YtgiploddoffmjaaGreat
