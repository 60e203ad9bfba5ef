/- My texts, joined: W27, W28, W32, W35, W30, W36, W78, W79. -/
import Derived.Below
import Derived.BigQuiet
import Derived.ChangeKeysEq
import Derived.Deep.AppendLies
import Derived.Deep.DeepCutAuto
import Derived.Deep.LoopGhost
import Derived.Deep.QuietTactic
import Derived.Deep.RegionHeld
import Derived.Deep.RegionHeld3
import Derived.Deep.RegionLaw
import Derived.Defers
import Derived.Ground.Names2Prog
import Derived.Ground.Names8Prog
import Derived.Ground.SlsfProg
import Derived.Handy
import Derived.KernelRfl
import Derived.Laws.AppendOwn
import Derived.Laws.AppendOwnNone
import Derived.Laws.CopyRow
import Derived.Laws.Pointers
import Derived.Laws.StructEq
import Derived.Lib.Hide
import Derived.Lib.Overlaps
import Derived.LoopIn
import Derived.LoopN
import Derived.LoopNIn
import Derived.LoopTactic
import Derived.MapKept
import Derived.Maps.AppendAt
import Derived.Maps.OwnOps
import Derived.Maps.RangeRun
import Derived.Maps.RangeWalk
import Derived.Outline
import Derived.OwnWalk
import Derived.OwnWalkIn
import Derived.RangeFuncBound
import Derived.RangeFuncCalls
import Derived.RangeFuncLeaves
import Derived.RangeFuncNested
import Derived.Recover
import Derived.Shelf.Abstract
import Derived.Shelf.RegionOpen
import Derived.Shelf.SlGeneric
import Derived.Shelf.SlLaysF0
import Derived.Shelf.SlSortCmp.HeapSort1
import Derived.Shelf.SlSortCmp.Insertion
import Derived.Shelf.SlSortCmp.Insertion1
import Derived.Shelf.SlSortCmp.Median1
import Derived.Shelf.SlSortCmp.NoneTotal
import Derived.Shelf.SlSortCmp.PartialInsertion1
import Derived.Shelf.SlSortCmp.Partition1
import Derived.Shelf.SlSortCmp.PartitionEqual1
import Derived.Shelf.SlSortCmp.Pdq1
import Derived.Shelf.SlSortCmp.Pivot1
import Derived.Shelf.SlSortCmp.ReverseRange1
import Derived.Shelf.SlSortCmp.SiftDown1
import Derived.Shelf.SlSortCmp.Whole1
import Derived.Shelf.SlSortCmp.WholeK
import Derived.Shelf.Slices.In.SortNone
import Derived.Shelf.Small.Bits
import Derived.Shelf.Sort.Plain
import Derived.Shelf.Spec.SlicesGrow
import Derived.TacticsInMore
import Derived.Test.YtgiploddoffmjaaGreatProg
import Derived.WalkKit
import Derived.WalkLawsBesides
import Derived.WalkSpells
import Derived.Test.YtgiploddoffmjaaGreatM0
import Derived.Test.YtgiploddoffmjaaGreatM1
import Derived.Test.YtgiploddoffmjaaGreatM2
import Derived.Test.YtgiploddoffmjaaGreatM3
import Derived.Test.YtgiploddoffmjaaGreatM4
import Derived.Test.YtgiploddoffmjaaGreatM5
import Derived.Test.YtgiploddoffmjaaGreatM6
import Derived.Test.YtgiploddoffmjaaGreatM7
import Derived.Test.YtgiploddoffmjaaGreatM8
import Derived.Test.YtgiploddoffmjaaGreatM9
import Derived.Test.YtgiploddoffmjaaGreatM10
import Derived.Test.YtgiploddoffmjaaGreatM11
import Derived.Test.YtgiploddoffmjaaGreatM12
import Derived.Test.YtgiploddoffmjaaGreatM13
set_option linter.unusedVariables false
set_option linter.unusedSimpArgs false
set_option linter.unusedSectionVars false
set_option maxRecDepth 10000
namespace Go.Proofs.YtgiploddoffmjaaGreat
section
open Go.RowKit Go.Shelf
set_option maxHeartbeats 8000000 in
theorem or_any (l : List Ev) (al : Option Addr) (cl : Nat) (fa fb : Form) (op n o1 n1 o2 n2 : Int) (t t1 t2 tc : Test) (k1 k2 : Pats) (v : Value) (w : World)
 (hr : Rd Ev.cells 5 w (.slice al l.length cl) l) (hcl : l.length ≤ cl) (hat : ∀ e ∈ l, 0 ≤ e.at_ ∧ e.at_ ≤ 200) (hl60 : l.length ≤ 60)
 (hk : RdK w (.cons o1 t1 n1 k1 (.cons o2 t2 n2 k2 .nil)) v)
 (hA : ∀ (W : World) (v1 : Value), Below w.heap.size w W → RdK W k1 v1 → Calls Tryz.prog 173 #[.slice al l.length cl, .agg (patA ⟨o1, t1, n1, k1⟩ v1)] W (OutC l W (allP l fa)))
 (hB : ∀ (W : World) (v1 : Value), Below w.heap.size w W → RdK W k2 v1 → Calls Tryz.prog 173 #[.slice al l.length cl, .agg (patA ⟨o2, t2, n2, k2⟩ v1)] W (OutC l W (allP l fb))) :
 Calls Tryz.prog 222 #[.slice al l.length cl, .agg (patA ⟨op, t, n, .cons o1 t1 n1 k1 (.cons o2 t2 n2 k2 .nil)⟩ v)] w (Out w (rawP l (.or fa fb))) := by
 obtain ⟨b, o, c, a1, c1, a2, c2, rfl, hbw, hc1, hc2, _, ⟨⟨d0, d1, d2, d3, d4, d5⟩, hk1⟩, ⟨⟨e0, e1, e2, e3, e4, e5⟩, hk2⟩⟩ := two_kids hk
 obtain ⟨ts, tl, th⟩ := t
 obtain ⟨t1s, t1l, t1h⟩ := t1
 obtain ⟨t2s, t2l, t2h⟩ := t2
 obtain ⟨tcs, tcl, tch⟩ := tc
 dsimp only [patA, Pats.len] at *
 have HF := zH (zA hr (zA hcl (zA hat hl60)))
 have HK := zH (zA hk1 hk2)
 have HA := zH hA
 have HB := zH hB
 have EN := zH (enters_of Tryz.func173 (by kernel_rfl) rfl)
 have HBW := zH hbw
 clear hr hcl hat hl60 hk hk1 hk2 hA hB hbw
 go_enter Tryz.func222, Tryz.ntmps222
 go_wp2_with fail
 refine zX (G := fun W => Code.wp _ _ _ _ W) w _ _ fun w2 hb hz hx => ?_
 have hS : ∀ W, Below w2.heap.size w2 W → W.cell? ⟨w.heap.size, 4, none⟩ = some (.int .i64 n) ∧ W.cell? ⟨w.heap.size, 5, none⟩ = some (.slice (some ⟨b, o, none⟩) 2 c) ∧ W.cell? ⟨b, o, none⟩ = some (.int .i64 o1) ∧ W.cell? ⟨b, o + 1, none⟩ = some (.int .i64 t1s) ∧ W.cell? ⟨b, o + 2, none⟩ = some (.int .i64 t1l) ∧ W.cell? ⟨b, o + 3, none⟩ = some (.int .i64 t1h) ∧ W.cell? ⟨b, o + 4, none⟩ = some (.int .i64 n1) ∧ W.cell? ⟨b, o + 5, none⟩ = some (.slice a1 k1.len c1) ∧ W.cell? ⟨b, o + 6, none⟩ = some (.int .i64 o2) ∧ W.cell? ⟨b, o + 6 + 1, none⟩ = some (.int .i64 t2s) ∧ W.cell? ⟨b, o + 6 + 2, none⟩ = some (.int .i64 t2l) ∧ W.cell? ⟨b, o + 6 + 3, none⟩ = some (.int .i64 t2h) ∧ W.cell? ⟨b, o + 6 + 4, none⟩ = some (.int .i64 n2) ∧ W.cell? ⟨b, o + 6 + 5, none⟩ = some (.slice a2 k2.len c2) := by
  intro W hW
  have hbW := hb.trans (hW.mono hb.size)
  exact ⟨zB hW (zC hx 4), zB hW (zC hx 5), zB hbW d0, zB hbW d1, zB hbW d2, zB hbW d3, zB hbW d4, zB hbW d5, zB hbW e0, zB hbW e1, zB hbW e2, zB hbW e3, zB hbW e4, zB hbW e5⟩
 have HS := zH hS
 have HW := zH ((Below.refl w2.heap.size w2).drew)
 have HB0 := zH (zA hb hz)
 clear hS hx hb hz d0 d1 d2 d3 d4 d5 e0 e1 e2 e3 e4 e5
 refine wp_region_held_drew (S := fun W => W.cell? ⟨w.heap.size, 4, none⟩ = some (.int .i64 n) ∧ W.cell? ⟨w.heap.size, 5, none⟩ = some (.slice (some ⟨b, o, none⟩) 2 c) ∧ W.cell? ⟨b, o, none⟩ = some (.int .i64 o1) ∧ W.cell? ⟨b, o + 1, none⟩ = some (.int .i64 t1s) ∧ W.cell? ⟨b, o + 2, none⟩ = some (.int .i64 t1l) ∧ W.cell? ⟨b, o + 3, none⟩ = some (.int .i64 t1h) ∧ W.cell? ⟨b, o + 4, none⟩ = some (.int .i64 n1) ∧ W.cell? ⟨b, o + 5, none⟩ = some (.slice a1 k1.len c1) ∧ W.cell? ⟨b, o + 6, none⟩ = some (.int .i64 o2) ∧ W.cell? ⟨b, o + 6 + 1, none⟩ = some (.int .i64 t2s) ∧ W.cell? ⟨b, o + 6 + 2, none⟩ = some (.int .i64 t2l) ∧ W.cell? ⟨b, o + 6 + 3, none⟩ = some (.int .i64 t2h) ∧ W.cell? ⟨b, o + 6 + 4, none⟩ = some (.int .i64 n2) ∧ W.cell? ⟨b, o + 6 + 5, none⟩ = some (.slice a2 k2.len c2)) (by kernel_rfl) (HS.out _ HW.out) (fun hHeld => ?_)
 refine takeI 0 (h := ?_)
 refine takeI 1 (h := ?_)
 refine takeI 2 (h := ?_)
 refine takeI 3 (h := ?_)
 refine takeI 4 (h := ?_)
 refine takeI 6 (h := ?_)
 refine takeI 7 (h := ?_)
 refine takeI 8 (h := ?_)
 refine takeI 9 (h := ?_)
 refine takeI 10 (h := ?_)
 refine wpAnyH_ready (rs := [5]) (by kernel_rfl) (by simp) ?_
 refine AllReadyH.cons rfl (fun K hK => ?_) ?_
 ·set_option maxRecDepth 10000 in
  refine step_callp (by rfl) 173 _ _ (by rfl) EN.out _ (by rfl) (HA.out _ (.slice a1 k1.len c1) (HB0.out.1.trans (HW.out.mono HB0.out.1.size)) (HK.out.1.below (HB0.out.1.trans (HW.out.mono HB0.out.1.size)))) ?_
  rintro e w3 (⟨axA, gA, hA, rfl, hLA, hnA, hiA, hoA, hbA⟩ | ⟨hA, rfl, hbA⟩)
  ·refine .inl ⟨_, rfl, ?_⟩
   have HWo := HW
   clear HW
   have HW := zH (HWo.out.trans (hbA.mono HWo.out.size))
   have HXA := zH (zA hA (zA (hLA.mono HWo.out.size) (zA hnA (zA hiA hbA))))
   clear hA hLA hnA hiA hoA hbA HWo
   refine hK.out _ _ (HS.out _ HW.out) (fun hHeld => ?_)
   clear hK K
   try simp only [Act.put, List.setIfInBounds_toArray, List.set_cons_zero, List.set_cons_succ]
   refine wpAnyH_ready (rs := [11]) (by kernel_rfl) (by simp) ?_
   refine AllReadyH.cons rfl (fun K hK => ?_) ?_
   ·set_option maxRecDepth 10000 in
    refine step_callp (by rfl) 173 _ _ (by rfl) EN.out _ (by rfl) (HB.out _ (.slice a2 k2.len c2) (HB0.out.1.trans (HW.out.mono HB0.out.1.size)) (HK.out.2.below (HB0.out.1.trans (HW.out.mono HB0.out.1.size)))) ?_
    rintro e w4 (⟨axB, gB, hB, rfl, hLB, hnB, hiB, hoB, hbB⟩ | ⟨hB, rfl, hbB⟩)
    ·refine .inl ⟨_, rfl, ?_⟩
     have HWo := HW
     clear HW
     have HW := zH (HWo.out.trans (hbB.mono HWo.out.size))
     have HXB := zH (zA hB (zA (hLB.mono HWo.out.size) (zA hnB (zA hiB hbB))))
     clear hB hLB hnB hiB hoB hbB HWo
     refine hK.out _ _ (HS.out _ HW.out) (fun hHeld => ?_)
     clear hK K
     try simp only [Act.put, List.setIfInBounds_toArray, List.set_cons_zero, List.set_cons_succ]
     refine wpAnyH_ready (rs := [12]) (by kernel_rfl) (by simp) ?_
     refine AllReadyH.cons rfl (fun K hK => ?_) ?_
     ·have hLA : LL w4 w2.heap.size _ gA := (HXA.out.2.1.below HXB.out.2.2.2.2)
      have hLB : LL w4 w2.heap.size _ gB := HXB.out.2.1
      have h1 := HXA.out.2.2.1
      have h2 := HXB.out.2.2.1
      refine step_append_rd w4 (by rfl) _ _ _ (by rfl) 31 1 24 _ Tryz.underlying44 info_row rfl (by decide) _ _ gA.length _ (by rfl) _ (by rfl) hLA.1 gB.length _ hLB.rdC (by unfold maxLen; omega) (by omega) ?_
      intro v5 w5 hwin5 hfr5 hsz5
      have hp := LL.push hLA hLB.2 HW.out.size rfl hwin5 hfr5
      have HP := zH hp
      clear hLA hLB h1 h2 hwin5 hfr5 hsz5 hp
      refine hK.out _ _ (HS.out _ (HW.out.trans HP.out.2)) (fun hHeld => ?_)
      clear hK K
      try simp only [Act.put, List.setIfInBounds_toArray, List.set_cons_zero, List.set_cons_succ]
      refine takeI 13 (h := ?_)
      refine wpAnyH_done (by kernel_rfl) ?_ _
      go_wp2
      go_ret
      refine .inl ⟨_, gA ++ gB, ?_, rfl, HP.out.1.mono HB0.out.1.size, ?_, HB0.out.1.trans ((HW.out.trans HP.out.2).mono HB0.out.1.size)⟩
      ·rw [rawP, HXA.out.1, HXB.out.1]
       simp [nums]
      ·have h1 := HXA.out.2.2.1
       have h2 := HXB.out.2.2.1
       rw [List.length_append]; omega
     exact AllReadyH.nil
    ·refine .inr ⟨_, rfl, ?_⟩
     exact ⟨rfl, .inr ⟨(by rw [rawP, HXA.out.1, hB]; rfl), rfl, HB0.out.1.trans ((HW.out.trans (hbB.mono HW.out.size)).mono HB0.out.1.size)⟩⟩
   exact AllReadyH.nil
  ·refine .inr ⟨_, rfl, ?_⟩
   exact ⟨rfl, .inr ⟨(by rw [rawP, hA]; rfl), rfl, HB0.out.1.trans ((HW.out.trans (hbA.mono HW.out.size)).mono HB0.out.1.size)⟩⟩
 exact AllReadyH.nil
end
section
open Go.RowKit Go.Shelf
set_option maxHeartbeats 8000000 in
theorem lack_any (l : List Ev) (al : Option Addr) (cl : Nat) (fa fb : Form) (op n o1 n1 o2 n2 : Int) (t t1 t2 tc : Test) (k1 k2 : Pats) (v : Value) (w : World)
 (hr : Rd Ev.cells 5 w (.slice al l.length cl) l) (hcl : l.length ≤ cl) (hat : ∀ e ∈ l, 0 ≤ e.at_ ∧ e.at_ ≤ 200) (hl60 : l.length ≤ 60)
 (hk : RdK w (.cons o1 t1 n1 k1 (.cons 1 tc 0 .nil (.cons o2 t2 n2 k2 .nil))) v)
 (hA : ∀ (W : World) (v1 : Value), Below w.heap.size w W → RdK W k1 v1 → Calls Tryz.prog 173 #[.slice al l.length cl, .agg (patA ⟨o1, t1, n1, k1⟩ v1)] W (OutC l W (allP l fa)))
 (hB : ∀ (W : World) (v1 : Value), Below w.heap.size w W → RdK W k2 v1 → Calls Tryz.prog 173 #[.slice al l.length cl, .agg (patA ⟨o2, t2, n2, k2⟩ v1)] W (OutC l W (allP l fb))) :
 Calls Tryz.prog 224 #[.slice al l.length cl, .agg (patA ⟨op, t, n, .cons o1 t1 n1 k1 (.cons 1 tc 0 .nil (.cons o2 t2 n2 k2 .nil))⟩ v)] w (Out w (rawP l (.lack n fa tc fb))) := by
 obtain ⟨b, o, c, a1, c1, a3, c3, a2, c2, rfl, hbw, hc1, hc2, ⟨⟨d0, d1, d2, d3, d4, d5⟩, hk1⟩, ⟨f0, f1, f2, f3, f4, f5⟩, ⟨⟨e0, e1, e2, e3, e4, e5⟩, hk2⟩⟩ := three_kids hk
 obtain ⟨ts, tl, th⟩ := t
 obtain ⟨t1s, t1l, t1h⟩ := t1
 obtain ⟨t2s, t2l, t2h⟩ := t2
 obtain ⟨tcs, tcl, tch⟩ := tc
 dsimp only [patA, Pats.len] at *
 have HF := zH (zA hr (zA hcl (zA hat hl60)))
 have HK := zH (zA hk1 hk2)
 have HA := zH hA
 have HB := zH hB
 have EN := zH (enters_of Tryz.func173 (by kernel_rfl) rfl)
 have HBW := zH hbw
 clear hr hcl hat hl60 hk hk1 hk2 hA hB hbw
 go_enter Tryz.func224, Tryz.ntmps224
 go_wp2_with fail
 refine zX (G := fun W => Code.wp _ _ _ _ W) w _ _ fun w2 hb hz hx => ?_
 have hS : ∀ W, Below w2.heap.size w2 W → W.cell? ⟨w.heap.size, 4, none⟩ = some (.int .i64 n) ∧ W.cell? ⟨w.heap.size, 5, none⟩ = some (.slice (some ⟨b, o, none⟩) 3 c) ∧ W.cell? ⟨b, o, none⟩ = some (.int .i64 o1) ∧ W.cell? ⟨b, o + 1, none⟩ = some (.int .i64 t1s) ∧ W.cell? ⟨b, o + 2, none⟩ = some (.int .i64 t1l) ∧ W.cell? ⟨b, o + 3, none⟩ = some (.int .i64 t1h) ∧ W.cell? ⟨b, o + 4, none⟩ = some (.int .i64 n1) ∧ W.cell? ⟨b, o + 5, none⟩ = some (.slice a1 k1.len c1) ∧ W.cell? ⟨b, o + 6 + 6, none⟩ = some (.int .i64 o2) ∧ W.cell? ⟨b, o + 6 + 6 + 1, none⟩ = some (.int .i64 t2s) ∧ W.cell? ⟨b, o + 6 + 6 + 2, none⟩ = some (.int .i64 t2l) ∧ W.cell? ⟨b, o + 6 + 6 + 3, none⟩ = some (.int .i64 t2h) ∧ W.cell? ⟨b, o + 6 + 6 + 4, none⟩ = some (.int .i64 n2) ∧ W.cell? ⟨b, o + 6 + 6 + 5, none⟩ = some (.slice a2 k2.len c2) ∧ W.cell? ⟨b, o + 6 + 1, none⟩ = some (.int .i64 tcs) ∧ W.cell? ⟨b, o + 6 + 2, none⟩ = some (.int .i64 tcl) ∧ W.cell? ⟨b, o + 6 + 3, none⟩ = some (.int .i64 tch) := by
  intro W hW
  have hbW := hb.trans (hW.mono hb.size)
  exact ⟨zB hW (zC hx 4), zB hW (zC hx 5), zB hbW d0, zB hbW d1, zB hbW d2, zB hbW d3, zB hbW d4, zB hbW d5, zB hbW e0, zB hbW e1, zB hbW e2, zB hbW e3, zB hbW e4, zB hbW e5, zB hbW f1, zB hbW f2, zB hbW f3⟩
 have HS := zH hS
 have HW := zH ((Below.refl w2.heap.size w2).drew)
 have HB0 := zH (zA hb hz)
 clear hS hx hb hz d0 d1 d2 d3 d4 d5 e0 e1 e2 e3 e4 e5 f0 f1 f2 f3 f4 f5
 refine wp_region_held_drew (S := fun W => W.cell? ⟨w.heap.size, 4, none⟩ = some (.int .i64 n) ∧ W.cell? ⟨w.heap.size, 5, none⟩ = some (.slice (some ⟨b, o, none⟩) 3 c) ∧ W.cell? ⟨b, o, none⟩ = some (.int .i64 o1) ∧ W.cell? ⟨b, o + 1, none⟩ = some (.int .i64 t1s) ∧ W.cell? ⟨b, o + 2, none⟩ = some (.int .i64 t1l) ∧ W.cell? ⟨b, o + 3, none⟩ = some (.int .i64 t1h) ∧ W.cell? ⟨b, o + 4, none⟩ = some (.int .i64 n1) ∧ W.cell? ⟨b, o + 5, none⟩ = some (.slice a1 k1.len c1) ∧ W.cell? ⟨b, o + 6 + 6, none⟩ = some (.int .i64 o2) ∧ W.cell? ⟨b, o + 6 + 6 + 1, none⟩ = some (.int .i64 t2s) ∧ W.cell? ⟨b, o + 6 + 6 + 2, none⟩ = some (.int .i64 t2l) ∧ W.cell? ⟨b, o + 6 + 6 + 3, none⟩ = some (.int .i64 t2h) ∧ W.cell? ⟨b, o + 6 + 6 + 4, none⟩ = some (.int .i64 n2) ∧ W.cell? ⟨b, o + 6 + 6 + 5, none⟩ = some (.slice a2 k2.len c2) ∧ W.cell? ⟨b, o + 6 + 1, none⟩ = some (.int .i64 tcs) ∧ W.cell? ⟨b, o + 6 + 2, none⟩ = some (.int .i64 tcl) ∧ W.cell? ⟨b, o + 6 + 3, none⟩ = some (.int .i64 tch)) (by kernel_rfl) (HS.out _ HW.out) (fun hHeld => ?_)
 refine takeI 0 (h := ?_)
 refine takeI 1 (h := ?_)
 refine takeI 2 (h := ?_)
 refine takeI 3 (h := ?_)
 refine takeI 4 (h := ?_)
 refine takeI 5 (h := ?_)
 refine takeI 7 (h := ?_)
 refine takeI 8 (h := ?_)
 refine takeI 9 (h := ?_)
 refine takeI 10 (h := ?_)
 refine takeI 11 (h := ?_)
 refine takeI 13 (h := ?_)
 refine takeI 14 (h := ?_)
 refine takeI 15 (h := ?_)
 refine takeI 16 (h := ?_)
 refine takeI 17 (h := ?_)
 refine takeI 18 (h := ?_)
 have ENJ := enters_of Tryz.func262 (by kernel_rfl) rfl
 refine wpAnyH_ready (rs := [6]) (by kernel_rfl) (by simp) ?_
 refine AllReadyH.cons rfl (fun K hK => ?_) ?_
 ·set_option maxRecDepth 10000 in
  refine step_callp (by rfl) 173 _ _ (by rfl) EN.out _ (by rfl) (HA.out _ (.slice a1 k1.len c1) (HB0.out.1.trans (HW.out.mono HB0.out.1.size)) (HK.out.1.below (HB0.out.1.trans (HW.out.mono HB0.out.1.size)))) ?_
  rintro e w3 (⟨axA, gA, hA, rfl, hLA, hnA, hiA, hoA, hbA⟩ | ⟨hA, rfl, hbA⟩)
  ·refine .inl ⟨_, rfl, ?_⟩
   have HWo := HW
   clear HW
   have HW := zH (HWo.out.trans (hbA.mono HWo.out.size))
   have HXA := zH (zA hA (zA (hLA.mono HWo.out.size) (zA hnA (zA hiA hbA))))
   clear hA hLA hnA hiA hoA hbA HWo
   refine hK.out _ _ (HS.out _ HW.out) (fun hHeld => ?_)
   clear hK K
   try simp only [Act.put, List.setIfInBounds_toArray, List.set_cons_zero, List.set_cons_succ]
   refine wpAnyH_ready (rs := [12]) (by kernel_rfl) (by simp) ?_
   refine AllReadyH.cons rfl (fun K hK => ?_) ?_
   ·set_option maxRecDepth 10000 in
    refine step_callp (by rfl) 173 _ _ (by rfl) EN.out _ (by rfl) (HB.out _ (.slice a2 k2.len c2) (HB0.out.1.trans (HW.out.mono HB0.out.1.size)) (HK.out.2.below (HB0.out.1.trans (HW.out.mono HB0.out.1.size)))) ?_
    rintro e w4 (⟨axB, gB, hB, rfl, hLB, hnB, hiB, hoB, hbB⟩ | ⟨hB, rfl, hbB⟩)
    ·refine .inl ⟨_, rfl, ?_⟩
     have HWo := HW
     clear HW
     have HW := zH (HWo.out.trans (hbB.mono HWo.out.size))
     have HXB := zH (zA hB (zA (hLB.mono HWo.out.size) (zA hnB (zA hiB hbB))))
     clear hB hLB hnB hiB hoB hbB HWo
     refine hK.out _ _ (HS.out _ HW.out) (fun hHeld => ?_)
     clear hK K
     try simp only [Act.put, List.setIfInBounds_toArray, List.set_cons_zero, List.set_cons_succ]
     refine wpAnyH_ready (rs := [19]) (by kernel_rfl) (by simp) ?_
     refine AllReadyH.cons rfl (fun K hK => ?_) ?_
     ·set_option maxRecDepth 10000 in
      refine step_callp (by rfl) 262 _ _ (by rfl) ENJ _ (by rfl) (joined_any l al cl n (some ⟨b, o + 6 + 1, none⟩) (some ⟨tcs, tcl, tch⟩) _ _ _ _ gA gB _ (HF.out.1.below (HB0.out.1.trans (HW.out.mono HB0.out.1.size))) HF.out.2.1 HF.out.2.2.1 HF.out.2.2.2 (⟨b, o + 6 + 1, rfl, Nat.lt_of_lt_of_le HBW.out (Nat.le_trans HB0.out.1.size HW.out.size), hHeld.2.2.2.2.2.2.2.2.2.2.2.2.2.2.1, hHeld.2.2.2.2.2.2.2.2.2.2.2.2.2.2.2.1, hHeld.2.2.2.2.2.2.2.2.2.2.2.2.2.2.2.2⟩) (HXA.out.2.1.below HXB.out.2.2.2.2) HXB.out.2.1 HXA.out.2.2.2.1 HXB.out.2.2.2.1 (by have := HXA.out.2.2.1; omega) (by have := HXB.out.2.2.1; omega)) ?_
      rintro e w5 ⟨v5, g5, rfl, hn5, hL5, hl5, hb5⟩
      refine .inl ⟨_, rfl, ?_⟩
      have HR5 := zH (zA hn5 (zA hL5 (zA hl5 hb5)))
      have hHW := HW.out.trans (hb5.mono HW.out.size)
      refine hK.out _ _ (HS.out _ hHW) (fun hHeld => ?_)
      clear hK K hn5 hL5 hl5 hb5 hHW
      try simp only [Act.put, List.setIfInBounds_toArray, List.set_cons_zero, List.set_cons_succ]
      refine takeI 20 (h := ?_)
      refine wpAnyH_done (by kernel_rfl) ?_ _
      go_wp2
      go_ret
      obtain ⟨hn5, hL5, hl5, hb5⟩ := HR5.out
      have hsz : w.heap.size ≤ w4.heap.size := Nat.le_trans HB0.out.1.size HW.out.size
      refine .inl ⟨_, g5, ?_, rfl, hL5.mono hsz, ?_, HB0.out.1.trans ((HW.out.trans (hb5.mono HW.out.size)).mono HB0.out.1.size)⟩
      ·rw [rawP, HXA.out.1, HXB.out.1, hn5]; rfl
      ·have h1 := HXA.out.2.2.1
       have h2 := HXB.out.2.2.1
       have := Nat.mul_le_mul h1 h2
       omega
     exact AllReadyH.nil
    ·refine .inr ⟨_, rfl, ?_⟩
     exact ⟨rfl, .inr ⟨(by rw [rawP, HXA.out.1, hB]; rfl), rfl, HB0.out.1.trans ((HW.out.trans (hbB.mono HW.out.size)).mono HB0.out.1.size)⟩⟩
   exact AllReadyH.nil
  ·refine .inr ⟨_, rfl, ?_⟩
   exact ⟨rfl, .inr ⟨(by rw [rawP, hA]; rfl), rfl, HB0.out.1.trans ((HW.out.trans (hbA.mono HW.out.size)).mono HB0.out.1.size)⟩⟩
 exact AllReadyH.nil
end
section
open Go.RowKit Go.Shelf
set_option maxHeartbeats 16000000 in
set_option maxRecDepth 100000 in
theorem all_step (l : List Ev) (al : Option Addr) (cl : Nat) (f : Form) (op n : Int) (t : Test) (ks : Pats) (v : Value) (w : World) (hl60 : l.length ≤ 60) (hop : 1 ≤ op ∧ op ≤ 5)
 (hk : RdK w ks v)
 (hA : ∀ (W : World), Below w.heap.size w W → Calls Tryz.prog (if op = 1 then 220 else if op = 2 then 221 else if op = 3 then 222 else if op = 4 then 223 else 224) #[.slice al l.length cl, .agg (patA ⟨op, t, n, ks⟩ v)] W (Out W (rawP l f))) :
 Calls Tryz.prog 173 #[.slice al l.length cl, .agg (patA ⟨op, t, n, ks⟩ v)] w (OutC l w (allP l f)) := by
 obtain ⟨ts, tl, th⟩ := t
 obtain ⟨a0, c0, rfl, _⟩ := id hk
 have HK := zH hk
 have HA := zH hA
 clear hk hA
 have hT : Tryz.prog.underlying 266 = some (.map 22 215) := Tryz.underlying266
 have hTK : Tryz.prog.underlying 22 = some (.int .i64) := Tryz.underlying22
 obtain ⟨W0, hW0⟩ : ∃ W0, W0 = (w.alloc (.cells #[.int .i64 op, .int .i64 ts, .int .i64 tl, .int .i64 th, .int .i64 n, .slice a0 ks.len c0] 27)).alloc (.map #[] 0) := ⟨_, rfl⟩
 have hx0 : W0.heap[w.heap.size]? = some (.cells #[.int .i64 op, .int .i64 ts, .int .i64 tl, .int .i64 th, .int .i64 n, .slice a0 ks.len c0] 27 (0, 0)) := by rw [hW0]; exact (Below.heap_alloc _ _ _ (by simp)).trans (heap_alloc_new w _)
 have hb0 : Below w.heap.size w W0 := by rw [hW0]; exact ((Below.refl _ _).alloc (Nat.le_refl _) _).alloc (by simp) _
 have hz0 : W0.heap.size = w.heap.size + 2 := by rw [hW0]; simp
 have hM0 : MapOf W0 (w.heap.size + 1) [] := ⟨#[], 0, by rw [hW0]; have := heap_alloc_new (w.alloc (.cells #[.int .i64 op, .int .i64 ts, .int .i64 tl, .int .i64 th, .int .i64 n, .slice a0 ks.len c0] 27)) (.map #[] 0); rwa [World.size_alloc] at this, MapKept.stamped_empty 0, .refl _⟩
 obtain ⟨w1, r1, m1, f1, s1⟩ := run_update_of (P := Tryz.prog) hT hTK hM0 1 (.func (.func 220) #[.slice al l.length cl] #[])
 obtain ⟨w2, r2, m2, f2, s2⟩ := run_update_of (P := Tryz.prog) hT hTK m1 2 (.func (.func 221) #[.slice al l.length cl] #[])
 obtain ⟨w3, r3, m3, f3, s3⟩ := run_update_of (P := Tryz.prog) hT hTK m2 3 (.func (.func 222) #[.slice al l.length cl] #[])
 obtain ⟨w4, r4, m4, f4, s4⟩ := run_update_of (P := Tryz.prog) hT hTK m3 4 (.func (.func 223) #[.slice al l.length cl] #[])
 obtain ⟨w5, r5, m5, f5, s5⟩ := run_update_of (P := Tryz.prog) hT hTK m4 5 (.func (.func 224) #[.slice al l.length cl] #[])
 have hf05 : Fr (fun i => i = w.heap.size + 1) W0 w5 := zT f1 (zT f2 (zT f3 (zT f4 f5 fun _ _ h => h) fun _ _ h => h) fun _ _ h => h) fun _ _ h => h
 have hb5 : Below w.heap.size w w5 := hb0.trans (zO hf05 hb0.size fun i hi => by omega)
 have hx5 := (hf05.block w.heap.size (by omega) (by omega)).trans hx0
 have hz : (zeroValue 215).run Tryz.prog w5 = .ok .nilFunc w5 := by kernel_rfl
 have hl := run_lookup_of (P := Tryz.prog) hT hTK hz m5 op false
 have c0 := zC hx5 0
 have c1 := zC hx5 1
 have c2 := zC hx5 2
 have c3 := zC hx5 3
 have c4 := zC hx5 4
 have c5 := zC hx5 5
 have HB := zH hb5
 have HAC := zH (HA.out w5 hb5)
 rw [hW0] at r1
 clear hT hTK hW0 hx0 hb0 hz0 hM0 m1 m2 m3 m4 m5 f1 f2 f3 f4 f5 s1 s2 s3 s4 s5 hf05 hb5 hx5 hz
 have hmm := @run_makeMap Tryz.prog
 obtain rfl | rfl | rfl | rfl | rfl : op = 1 ∨ op = 2 ∨ op = 3 ∨ op = 4 ∨ op = 5 := by omega
 all_goals
  simp only [List.getElem?_toArray, List.getElem?_cons_zero, List.getElem?_cons_succ] at c0 c1 c2 c3 c4 c5
  simp [kvGet] at hl
  simp only [patA, reduceIte, Int.reduceEq] at HAC
  clear HA
  go_enter Tryz.func173, Tryz.ntmps173
  go_wp2_with fail
  refine HAC.out.mono ?_
  clear r1 r2 r3 r4 r5 c0 c1 c2 c3 c4 c5 hl hmm HAC
  rintro e w6 (⟨v6, g6, hraw, rfl, hL6, hl6, hb6⟩ | ⟨hraw, rfl, hb6⟩)
  rotate_left
  ·exact ⟨rfl, .inr ⟨by rw [allP_raw (by omega), hraw]; rfl, rfl, HB.out.trans (hb6.mono HB.out.size)⟩⟩
  obtain ⟨a6, c6, rfl, _, _⟩ := hL6.form
  have HU := zH (unique_any _ _ w6 g6 hL6 (by omega))
  have H6 := zH (zA hraw (zA hL6 hb6))
  clear hraw hL6 hb6
  go_wp2_with fail
  refine HU.out.mono ?_
  rintro e w7 ⟨v7, g7, rfl, hn7, hL7, ⟨a7, rfl⟩, hm7, hf7, ho7⟩
  have hb7 : Below w.heap.size w w7 := HB.out.trans ((H6.out.2.2.trans (H6.out.2.1.fr_below hf7 (Nat.le_refl _) H6.out.2.2.size)).mono HB.out.size)
  have hall : allP l f = lim (nums g7) := by rw [allP_raw (by omega), H6.out.1, hn7]; rfl
  have H7 := zH (zA hall (zA hn7 (zA hL7 hb7)))
  clear hn7 hL7 hm7 hf7 ho7 hb7 hall
  by_cases h8 : g7.length ≤ 200
  ·have n8 : (g7.length : Int) ≤ 200 := by omega
   go_wp2_with (go_at_call 213; refine (upto_few _ _ n8 _).mono ?_; rintro e w9 ⟨rfl, rfl⟩)
   go_ret
   obtain ⟨hall, hn7, hL7, hb7⟩ := H7.out
   rw [lim, if_pos (by rw [nums_len]; exact h8)] at hall
   exact .inl ⟨a7, g7, hall, rfl, hL7.mono HB.out.size, h8, raw_inc (by omega) hall, (by rw [hn7]; exact setO_sorted ordL_laws _), hb7⟩
  ·have n8 : (200 : Int) < (g7.length : Int) := by omega
   go_wp2_with fail
   refine (upto_many _ _ n8 _).mono ?_
   rintro e w9 ⟨rfl, rfl⟩
   obtain ⟨hall, hn7, hL7, hb7⟩ := H7.out
   rw [lim, if_neg (by rw [nums_len]; exact h8)] at hall
   exact ⟨rfl, .inr ⟨hall, rfl, hb7⟩⟩
theorem all_any (l : List Ev) (al : Option Addr) (cl : Nat) (hcl : l.length ≤ cl) (hat : ∀ e ∈ l, 0 ≤ e.at_ ∧ e.at_ ≤ 200) (hl60 : l.length ≤ 60) : ∀ (f : Form) (op n : Int) (t : Test) (ks : Pats) (v : Value) (w : World), shape f op t n ks → Rd Ev.cells 5 w (.slice al l.length cl) l → RdK w ks v →
 Calls Tryz.prog 173 #[.slice al l.length cl, .agg (patA ⟨op, t, n, ks⟩ v)] w (OutC l w (allP l f))
 | .one t', op, n, t, ks, v, w, hs, hr, hk => by
  obtain ⟨rfl, rfl, rfl, rfl⟩ := hs
  refine all_step l al cl _ 1 0 t .nil v w hl60 (by omega) hk fun W hb => ?_
  rw [if_pos rfl]
  refine (one_any l al cl 1 t 0 v W (hr.below hb) hl60).mono ?_
  rintro e w' ⟨v', gs, rfl, hn, hL, hb'⟩
  refine .inl ⟨v', gs, by rw [hn]; rfl, rfl, hL, ?_, hb'⟩
  have := (oneFrom_sorted (t := t) l 0).2
  rw [← nums_len, hn]; omega
 | .thn m a b, op, n, t, ks, v, w, hs, hr, hk => by
  obtain ⟨rfl, rfl, rfl, o1, t1, n1, k1, o2, t2, n2, k2, rfl, h1, h2⟩ := hs
  refine all_step l al cl _ 2 n zeroT _ v w hl60 (by omega) hk fun W hb => ?_
  rw [if_neg (by decide), if_pos rfl]
  exact then_any l al cl a b 2 n o1 n1 o2 n2 zeroT t1 t2 zeroT k1 k2 v W (hr.below hb) hcl hat hl60 (hk.below hb) (fun W' v1 hb' hk' => all_any l al cl hcl hat hl60 a o1 n1 t1 k1 v1 W' h1 ((hr.below hb).below hb') hk') (fun W' v1 hb' hk' => all_any l al cl hcl hat hl60 b o2 n2 t2 k2 v1 W' h2 ((hr.below hb).below hb') hk')
 | .or a b, op, n, t, ks, v, w, hs, hr, hk => by
  obtain ⟨rfl, rfl, rfl, o1, t1, n1, k1, o2, t2, n2, k2, rfl, h1, h2⟩ := hs
  refine all_step l al cl _ 3 0 zeroT _ v w hl60 (by omega) hk fun W hb => ?_
  rw [if_neg (by decide), if_neg (by decide), if_pos rfl]
  exact or_any l al cl a b 3 0 o1 n1 o2 n2 zeroT t1 t2 zeroT k1 k2 v W (hr.below hb) hcl hat hl60 (hk.below hb) (fun W' v1 hb' hk' => all_any l al cl hcl hat hl60 a o1 n1 t1 k1 v1 W' h1 ((hr.below hb).below hb') hk') (fun W' v1 hb' hk' => all_any l al cl hcl hat hl60 b o2 n2 t2 k2 v1 W' h2 ((hr.below hb).below hb') hk')
 | .many m a, op, n, t, ks, v, w, hs, hr, hk => by
  obtain ⟨rfl, rfl, rfl, o1, t1, n1, k1, rfl, h1⟩ := hs
  refine all_step l al cl _ 4 n zeroT _ v w hl60 (by omega) hk fun W hb => ?_
  rw [if_neg (by decide), if_neg (by decide), if_neg (by decide), if_pos rfl]
  exact again_any l al cl a 4 n o1 n1 zeroT t1 k1 v W (hr.below hb) hcl hat hl60 (hk.below hb) (fun W' v1 hb' hk' => all_any l al cl hcl hat hl60 a o1 n1 t1 k1 v1 W' h1 ((hr.below hb).below hb') hk')
 | .lack m a c b, op, n, t, ks, v, w, hs, hr, hk => by
  obtain ⟨rfl, rfl, rfl, o1, t1, n1, k1, o2, t2, n2, k2, rfl, h1, h2⟩ := hs
  refine all_step l al cl _ 5 n zeroT _ v w hl60 (by omega) hk fun W hb => ?_
  rw [if_neg (by decide), if_neg (by decide), if_neg (by decide), if_neg (by decide)]
  exact lack_any l al cl a b 5 n o1 n1 o2 n2 zeroT t1 t2 c k1 k2 v W (hr.below hb) hcl hat hl60 (hk.below hb) (fun W' v1 hb' hk' => all_any l al cl hcl hat hl60 a o1 n1 t1 k1 v1 W' h1 ((hr.below hb).below hb') hk') (fun W' v1 hb' hk' => all_any l al cl hcl hat hl60 b o2 n2 t2 k2 v1 W' h2 ((hr.below hb).below hb') hk')
end
section
open Go.RowKit Go.Shelf
theorem idxFrom_spec {α : Type} (p : α → Bool) : ∀ (l : List α) (n : Nat), (idxFrom p l n = -1 ∧ ∀ x ∈ l, p x = false) ∨ ∃ k : Nat, idxFrom p l n = ((n + k : Nat) : Int) ∧ k < l.length ∧ (∀ x ∈ l.take k, p x = false) ∧ ∃ x, l[k]? = some x ∧ p x = true
 | [], n => .inl ⟨rfl, by simp⟩
 | y :: l, n => by
  rw [idxFrom]
  cases hy : p y with
  | true => exact .inr ⟨0, by simp, by simp, by simp, y, by simp, hy⟩
  | false =>
   rw [if_neg (by decide)]
   rcases idxFrom_spec p l (n + 1) with ⟨h1, h2⟩ | ⟨k, h1, h2, h3, h4⟩
   ·refine .inl ⟨h1, fun x hx => ?_⟩
    rcases List.mem_cons.1 hx with rfl | hx
    ·exact hy
    ·exact h2 x hx
   ·refine .inr ⟨k + 1, by rw [h1]; congr 1; omega, by simp; omega, fun x hx => ?_, by simpa using h4⟩
    rw [List.take_succ_cons] at hx
    rcases List.mem_cons.1 hx with rfl | hx
    ·exact hy
    ·exact h3 x hx
set_option maxHeartbeats 2000000 in
theorem rows_idx (G : FuncId) (caps : Array Value) (q : Row → Bool) (v : Value) (gs : List Row) (w : World) (hr : Rd rowC 1 w v gs) (hf : ∀ p ∈ gs, ∃ a c, p.1 = .slice a p.2.length c) (he : ∀ args w, (callFunc G args).run Tryz.prog w = .ok (.enter G args) w)
 (hp : ∀ W p, p ∈ gs → Below w.heap.size w W → Calls Tryz.prog G (#[p.1] ++ caps) W fun e w' => e = .returned (.bool (q p)) ∧ Below W.heap.size W w') :
 Calls Tryz.prog 104 #[v, .func (.func G) #[] caps] w fun e w' => e = .returned (.int .i64 (idxFrom q gs 0)) ∧ Below w.heap.size w w' := by
 obtain ⟨a, c, rfl⟩ : ∃ a c, v = .slice a gs.length c := by obtain ⟨_, a, c, rfl, _⟩ := hr; exact ⟨a, c, rfl⟩
 have hl63 := hr.1
 have HR := zH (zA hr hf)
 have HP := zH hp
 have HB := zH (Below.refl w.heap.size w)
 clear hr hp hf
 go_enter Tryz.func104, Tryz.ntmps104
 go_wp2
 go_loopw [8] (fun i W => ∃ (n : Nat), i = .int .i64 n ∧ n ≤ gs.length ∧ idxFrom q (gs.drop n) n = idxFrom q gs 0 ∧ Below w.heap.size w W) (fun i _ => gs.length - (intOf i).toNat)
 case atStart => exact ⟨0, rfl, by omega, rfl, HB.out⟩
 case round =>
  obtain ⟨n, rfl, hnl, hi, hB⟩ := hrel
  by_cases hlt : n < gs.length
  ·have hx := List.getElem?_eq_getElem hlt
   have hmem : gs[n] ∈ gs := List.getElem_mem hlt
   generalize gs[n] = x at hx hmem
   have hcall := HP.out wr x hmem hB
   obtain ⟨vx, xs⟩ := x
   obtain ⟨ax, cx, e⟩ := HR.out.2 _ hmem
   dsimp only at e
   subst e
   obtain ⟨b, off, rfl, hbl, hc⟩ := rd_at (HR.out.1.below hB) hx
   have q0 : wr.cell? ⟨b, off + n, none⟩ = some (.slice ax xs.length cx) := by have := hc 0 _ rfl; simpa using this
   have hd := idxFrom_drop (p := q) hx
   rw [hi] at hd
   have HX := zH (zA hd (zA hB hcall))
   have n1 : (n : Int) < (gs.length : Int) := by omega
   clear hd hB hi hc hx hmem hcall
   cases hpx : q (.slice ax xs.length cx, xs) with
   | true =>
    have HPX := zH hpx
    clear hpx
    go_wp2_with (refine (HX.out.2.2).mono ?_; rintro e w2 ⟨rfl, hb2⟩; rw [HPX.out])
    go_ret
    exact ⟨ret_int (by rw [HX.out.1, if_pos HPX.out]), HX.out.2.1.trans (hb2.mono HX.out.2.1.size)⟩
   | false =>
    have HPX := zH hpx
    clear hpx
    go_wp2_with (refine (HX.out.2.2).mono ?_; rintro e w2 ⟨rfl, hb2⟩; rw [HPX.out])
    go_roundw
    case rel => exact ⟨n + 1, by go_num, by omega, by rw [HX.out.1, HPX.out]; rfl, HX.out.2.1.trans (hb2.mono HX.out.2.1.size)⟩
    case measure => simp [intOf]; omega
  ·obtain rfl : n = gs.length := by omega
   have HX := zH (zA hi hB)
   clear hi hB
   go_wp2
   go_ret
   exact ⟨ret_int (by rw [← HX.out.1, List.drop_length]; rfl), HX.out.2⟩
theorem filter_none {α : Type} {q : α → Bool} {l : List α} (h : ∀ x ∈ l, q x = false) : (l.filter fun x => !q x) = l := List.filter_eq_self.2 fun x hx => by simp [h x hx]
theorem filter_take_snoc {q : Row → Bool} {l : List Row} {m : Nat} {x : Row} (h : l[m]? = some x) : ((l.take (m + 1)).filter fun p => !q p) = (l.take m).filter (fun p => !q p) ++ if q x then [] else [x] := by
 rw [List.take_add_one, h, List.filter_append]
 cases hq : q x <;> simp [hq]
theorem set_keep {zs : List Row} {n m : Nat} {x : Row} (hnm : n < m) (hm : m < zs.length) : (zs.set n x).take (n + 1) = zs.take n ++ [x] ∧ (zs.set n x).drop (m + 1) = zs.drop (m + 1) := by
 refine ⟨?_, by rw [List.drop_set, if_pos (by omega)]⟩
 rw [List.take_add_one, List.take_set_of_le (by omega)]
 simp [List.getElem?_set, show n < zs.length by omega]
set_option maxRecDepth 100000 in
set_option maxHeartbeats 8000000 in
theorem delRows_any (G : FuncId) (caps : Array Value) (q : Row → Bool) (a : Option Addr) (c : Nat) (S : Nat → Prop) (w : World) (gs : List Row) (hw : Win rowC 1 31 w (.slice a gs.length c) S gs) (hf : ∀ p ∈ gs, ∃ a c, p.1 = .slice a p.2.length c) (hl : gs.length < 1000000)
 (he : ∀ args w, (callFunc G args).run Tryz.prog w = .ok (.enter G args) w)
 (hp : ∀ W p, p ∈ gs → Fr (fun i => some i = (Value.slice a gs.length c).ownBlock) w W → Calls Tryz.prog G (#[p.1] ++ caps) W fun e w' => e = .returned (.bool (q p)) ∧ Below W.heap.size W w') :
 Calls Tryz.prog 43 #[.slice a gs.length c, .func (.func G) #[] caps] w fun e w' => ∃ gs' : List Row, Hid (gs' = gs.filter fun p => !q p) ∧ e = .returned (.slice a gs'.length c) ∧ Win rowC 1 31 w' (.slice a gs'.length c) S gs' ∧ Fr (fun i => some i = (Value.slice a gs.length c).ownBlock) w w' := by
 have HI := zH (rows_idx G caps q _ gs w (win_rd row_len hw) hf he (fun W p hm hW => hp W p hm (zF hW)))
 have hnc : gs.length ≤ c := by
  obtain ⟨a0, c0, e0, h, _⟩ := zS hw
  injection e0 with _ _ e3
  omega
 rcases idxFrom_spec q gs 0 with ⟨h1, h2⟩ | ⟨k, h1, h2, h3, x0, h4, h5⟩
 ·rw [h1] at HI
  have HH := zH (zA hw (filter_none h2))
  clear hw h1 h2 hf hp he
  go_enter Tryz.func43, Tryz.ntmps43
  go_wp2_with (go_at_call 104; refine HI.out.mono ?_; rintro e w2 ⟨rfl, hb2⟩)
  go_ret
  exact ⟨gs, zH HH.out.2.symm, rfl, zM HH.out.1 (zF (S := fun _ => False) hb2) (fun _ _ h => h), zF hb2⟩
 ·rw [h1, Nat.zero_add] at HI
  obtain ⟨b, off, rfl⟩ : ∃ b off, a = some ⟨b, off, none⟩ := by
   obtain ⟨b, off, ha, _⟩ := rd_at (win_rd row_len hw) h4
   exact ⟨b, off, ha⟩
  have hcm : c ≤ 9223372036854775807 := by
   rcases hw.2 with ⟨e0, _⟩ | ⟨g', off', cap, cur, e0, _, _, _, h2, _⟩
   ·cases e0
   ·injection e0 with _ _ e3
    simp only [maxLen] at h2
    omega
  have hfirst : (gs.take (k + 1)).filter (fun p => !q p) = gs.take k := by
   rw [filter_take_snoc h4, h5, if_pos rfl, List.append_nil]
   exact filter_none h3
  have hpb : ∀ W p, p ∈ gs → Fr (fun i => i = b) w W → Calls Tryz.prog G (#[p.1] ++ caps) W fun e w' => e = .returned (.bool (q p)) ∧ Below W.heap.size W w' := fun W p hm hF => hp W p hm (fr_mono hF fun i hi => by rw [hi]; rfl)
  have HH := zH (zA hw (zA hfirst (zA hpb hf)))
  have hk1 : ((k : Int) == -1) = false := beq_eq_false_iff_ne.2 (by omega)
  have hk1' : ¬ ((-1 : Int) = k) := by omega
  have hkw : IntKind.i64.wrap ((k : Int) + 1) = (k : Int) + 1 := Go.IntWalk.i64_in _ (by omega)
  clear hw h1 h3 h4 h5 hf hp hfirst hpb
  go_enter Tryz.func43, Tryz.ntmps43
  go_wp2_with (go_at_call 104; refine HI.out.mono ?_; rintro e w2 ⟨rfl, hb2⟩; have HB2 := zH hb2; clear hb2)
  go_loopw [5, 6] (fun i j W => ∃ (n m : Nat) (zs : List Row), i = .int .i64 n ∧ j = .int .i64 m ∧ n < m ∧ m ≤ gs.length ∧ zs.length = gs.length ∧ zs.take n = (gs.take m).filter (fun p => !q p) ∧ zs.drop m = gs.drop m ∧ Win rowC 1 31 W (.slice (some ⟨b, off, none⟩) gs.length c) S zs ∧ Fr (fun i => i = b) w W) (fun _ j _ => gs.length - (intOf j).toNat)
  case atStart => exact ⟨k, k + 1, gs, rfl, by go_num, by omega, by omega, rfl, HH.out.2.1.symm, rfl, zM HH.out.1 (zF (S := fun _ => False) HB2.out) (fun _ _ h => h), zF HB2.out⟩
  case round =>
   obtain ⟨n, m, zs, rfl, rfl, hnm, hml, hzl, hzn, hzd, hwz, hF⟩ := hrel
   by_cases hlt : m < gs.length
   rotate_left
   ·obtain rfl : m = gs.length := by omega
    rw [List.take_length] at hzn
    obtain ⟨cur, hS, hg, hcs, ht⟩ : ∃ cur, S b ∧ wr.heap[b]? = some (.cells cur 31 (0, 0)) ∧ off + c * 1 ≤ cur.size ∧ (cur.toList.drop off).take (gs.length * 1) = zs.flatMap rowC := by
     rcases hwz.2 with ⟨h1, _⟩ | ⟨g', off', cap, cur, hv, hS, hg, _, _, h3, h4⟩
     ·cases h1
     ·injection hv with e1 e2 e3
      injection e1 with e1
      injection e1 with e1 e4
      subst e1; subst e3; subst e4
      rw [hzl] at h4
      exact ⟨cur, hS, hg, h3, h4⟩
    have hcl := fun ty => run_clear_k (P := Tryz.prog) wr 44 ty 31 _ Tryz.underlying44 zero_list (by simp [Value.cells, Value.oneCell']) b (off + n) (gs.length - n) (c - n) cur hg (by omega) (by simp [Value.cells]; omega)
    have HCL := zH (zA hS (zA hg (zA hcs (zA ht (zA hzn (zA hF hzl))))))
    have p1 : ¬ (gs.length : Int) < (gs.length : Int) := by omega
    have p2 : (n : Int) ≤ (gs.length : Int) := by omega
    have p3 : (n : Int) ≤ (c : Int) := by omega
    have p4 : ¬ ((n : Int) = (c : Int)) := by omega
    have p5 : ¬ ((c : Int) = (n : Int)) := by omega
    have p6 : (0 : Int) ≤ (n : Int) := by omega
    have HN := zH hnm
    clear hS hg hcs ht hzn hF hwz hzd hzl hml hnm hlt
    go_wp2
    go_ret
    have hzl := HCL.out.2.2.2.2.2.2
    have hn := HN.out
    have hyl2 : (zs.take n).length = n := by rw [List.length_take]; omega
    refine ⟨zs.take n, zH HCL.out.2.2.2.2.1, by rw [hyl2]; rfl, ?_, fr_mono (zT HCL.out.2.2.2.2.2.1 (fr_setRow _ _ _) fun i _ h => h) fun i hi => by rw [hi]; rfl⟩
    refine ⟨by rw [flat_len row_len], .inr ⟨b, off, c, _, by rw [hyl2], HCL.out.1, setRow_heap _ _ _ _ _ _ HCL.out.2.1, by rw [hyl2]; omega, by unfold maxLen; omega, ?_, ?_⟩⟩
    ·have := HCL.out.2.2.1
     rw [spl_size (by simp [size_zeroCells, Value.cells]; omega)]
     exact this
    ·have := HCL.out.2.2.1
     rw [spl_list, hyl2, List.append_assoc, List.drop_append_of_le_length (by rw [List.length_take, Array.length_toList]; omega), List.drop_take, List.take_append_of_le_length (by rw [List.length_take, List.length_drop, Array.length_toList]; omega), show off + n - off = n by omega, Nat.mul_one, List.take_take, Nat.min_self, ← flat_take1, ← HCL.out.2.2.2.1, List.take_take, Nat.min_eq_left (by omega)]
   ·have hx := List.getElem?_eq_getElem hlt
    have mx : gs[m] ∈ gs := List.getElem_mem hlt
    generalize gs[m] = x at hx mx
    have hzx : zs[m]? = some x := by
     have := congrArg (fun l => l[0]?) hzd
     simp only [List.getElem?_drop, Nat.add_zero] at this
     rw [this]; exact hx
    have hz0 := List.getElem?_eq_getElem (show n < zs.length by omega)
    generalize zs[n]'(by omega) = z0 at hz0
    obtain ⟨vx, xs⟩ := x
    have hcall := HH.out.2.2.1 wr _ mx hF
    obtain ⟨ax, cx, ex⟩ := HH.out.2.2.2 _ mx
    dsimp only at ex
    subst ex
    have q1 : wr.cell? ⟨b, off + m, none⟩ = some (.slice ax xs.length cx) := by
     obtain ⟨_, _, e, _, hc⟩ := rd_at (win_rd row_len (by rw [← hzl] at hwz; exact hwz)) hzx
     injection e with e
     injection e with e1 e2
     subst e1; subst e2
     have := hc 0 _ rfl
     simpa using this
    have hwn : IntKind.i64.wrap ((n : Int) + 1) = (n : Int) + 1 := Go.IntWalk.i64_in _ (by omega)
    have hwm : IntKind.i64.wrap ((m : Int) + 1) = (m : Int) + 1 := Go.IntWalk.i64_in _ (by omega)
    have p1 : (m : Int) < (gs.length : Int) := by omega
    have p3 : (n : Int) < (gs.length : Int) := by omega
    have p6 : (0 : Int) ≤ (n : Int) := by omega
    have hsn := filter_take_snoc (q := q) hx
    have hst := set_keep (zs := zs) (x := (.slice ax xs.length cx, xs)) hnm (by omega)
    have hzd' : zs.drop (m + 1) = gs.drop (m + 1) := by
     have := congrArg (List.drop 1) hzd
     rwa [List.drop_drop, List.drop_drop] at this
    have HZ := zH (zA hnm (zA hzl (zA hzn (zA hwz (zA hF (zA hz0 (zA hsn (zA hst hzd'))))))))
    have HC := zH hcall
    clear hx mx hnm hzl hzn hzd hwz hF hz0 hzx hsn hst hzd' hcall
    cases hq : q (.slice ax xs.length cx, xs) with
    | true =>
     have HQ := zH hq
     clear hq
     go_wp2_with (refine HC.out.mono ?_; rintro e w3 ⟨rfl, hb3⟩; rw [HQ.out])
     go_roundw
     case rel =>
      obtain ⟨hnm, hzl, hzn, hwz, hF, hz0, hsn, hst, hzd'⟩ := HZ.out
      exact ⟨n, m + 1, zs, rfl, by go_num, by omega, by omega, hzl, by rw [hsn, HQ.out, if_pos rfl, List.append_nil]; exact hzn, hzd', zM hwz (zF (S := fun _ => False) hb3) (fun _ _ h => h), zT hF (zF (S := fun i => i = b) hb3) fun _ _ h => h⟩
     case measure => simp [intOf]; omega
    | false =>
     have HQ := zH hq
     clear hq
     have ht := fun W (hw6 : Win rowC 1 31 W (.slice (some ⟨b, off, none⟩) gs.length c) S zs) => win_set row_len hw6 HZ.out.2.1 (y := (.slice ax xs.length cx, xs)) (u := .slice ax xs.length cx) (r := 0) HZ.out.2.2.2.2.2.1 (by decide) rfl
     have HT := zH ht
     clear ht
     go_wp2_with (refine HC.out.mono ?_; rintro e w3 ⟨rfl, hb3⟩; rw [HQ.out]; have hw6 := zM HZ.out.2.2.2.1 (zF (S := fun _ => False) hb3) (fun _ _ h => h); have hF6 := zT HZ.out.2.2.2.2.1 (zF (S := fun i => i = b) hb3) (fun _ _ h => h); have t0 := HT.out _ hw6; have f0 := t0.2.2; obtain ⟨g0, h0⟩ := Option.isSome_iff_exists.1 t0.2.1; rw [Nat.add_zero, Nat.mul_one] at f0 h0; have hw7 := t0.1; rw [Nat.add_zero, Nat.mul_one] at hw7; have H6 := zH (zA hw7 hF6); clear t0 hw7 hw6 hF6 hb3)
     go_roundw
     case rel =>
      obtain ⟨hnm, hzl, hzn, hwz, hF, hz0, hsn, hst, hzd'⟩ := HZ.out
      refine ⟨n + 1, m + 1, zs.set n (.slice ax xs.length cx, xs), by go_num, by go_num, by omega, by omega, by simp [hzl], ?_, by rw [hst.2]; exact hzd', H6.out.1, zT H6.out.2 (fr_setCell w3 ⟨b, off + n, none⟩ _) fun i _ h => h⟩
      rw [hst.1, hsn, HQ.out, if_neg (by decide), hzn]
     case measure => simp [intOf]; omega
end
section
open Go.RowKit Go.Shelf
set_option maxHeartbeats 1000000 in
theorem ints_idx (G : FuncId) (q1 q2 : Value) (p : Int → Bool) (v : Value) (xs : List Int) (w : World) (hr : Rd intC 1 w v xs) (he : ∀ args w, (callFunc G args).run Tryz.prog w = .ok (.enter G args) w)
 (hp : ∀ W x, x ∈ xs → Below w.heap.size w W → Calls Tryz.prog G #[.int .i64 x, q1, q2] W fun e w' => e = .returned (.bool (p x)) ∧ Below W.heap.size W w') :
 Calls Tryz.prog 214 #[v, .func (.func G) #[] #[q1, q2]] w fun e w' => e = .returned (.int .i64 (idxFrom p xs 0)) ∧ Below w.heap.size w w' := by
 obtain ⟨a, c, rfl⟩ : ∃ a c, v = .slice a xs.length c := by obtain ⟨_, a, c, rfl, _⟩ := hr; exact ⟨a, c, rfl⟩
 have hl63 := hr.1
 have HR := zH hr
 have HP := zH hp
 have HB := zH (Below.refl w.heap.size w)
 clear hr hp
 go_enter Tryz.func214, Tryz.ntmps214
 go_wp2
 go_loopw [8] (fun i W => ∃ (n : Nat), i = .int .i64 n ∧ n ≤ xs.length ∧ idxFrom p (xs.drop n) n = idxFrom p xs 0 ∧ Below w.heap.size w W) (fun i _ => xs.length - (intOf i).toNat)
 case atStart => exact ⟨0, rfl, by omega, rfl, HB.out⟩
 case round =>
  obtain ⟨n, rfl, hnl, hi, hB⟩ := hrel
  by_cases hlt : n < xs.length
  ·have hx := List.getElem?_eq_getElem hlt
   have hmem : xs[n] ∈ xs := List.getElem_mem hlt
   generalize xs[n] = x at hx hmem
   obtain ⟨b, off, rfl, hbl, hc⟩ := rd_at (HR.out.below hB) hx
   have q0 : wr.cell? ⟨b, off + n, none⟩ = some (.int .i64 x) := by have := hc 0 _ rfl; simpa using this
   have hd := idxFrom_drop (p := p) hx
   rw [hi] at hd
   have HX := zH (zA hd (zA hB (HP.out wr x hmem hB)))
   clear hd hB hi hc hx hmem
   cases hpx : p x with
   | true =>
    have HPX := zH hpx
    clear hpx
    go_wp2_with (refine (HX.out.2.2).mono ?_; rintro e w2 ⟨rfl, hb2⟩; rw [HPX.out])
    go_ret
    exact ⟨ret_int (by rw [HX.out.1, if_pos HPX.out]), HX.out.2.1.trans (hb2.mono HX.out.2.1.size)⟩
   | false =>
    have HPX := zH hpx
    clear hpx
    go_wp2_with (refine (HX.out.2.2).mono ?_; rintro e w2 ⟨rfl, hb2⟩; rw [HPX.out])
    go_roundw
    case rel => exact ⟨n + 1, by go_num, by omega, by rw [HX.out.1, HPX.out]; rfl, HX.out.2.1.trans (hb2.mono HX.out.2.1.size)⟩
    case measure => simp [intOf]; omega
  ·obtain rfl : n = xs.length := by omega
   have HX := zH (zA hi hB)
   clear hi hB
   go_wp2
   go_ret
   exact ⟨ret_int (by rw [← HX.out.1, List.drop_length]; rfl), HX.out.2⟩
theorem ints_has (G : FuncId) (q1 q2 : Value) (p : Int → Bool) (v : Value) (xs : List Int) (w : World) (hr : Rd intC 1 w v xs) (he : ∀ args w, (callFunc G args).run Tryz.prog w = .ok (.enter G args) w)
 (hp : ∀ W x, x ∈ xs → Below w.heap.size w W → Calls Tryz.prog G #[.int .i64 x, q1, q2] W fun e w' => e = .returned (.bool (p x)) ∧ Below W.heap.size W w') :
 Calls Tryz.prog 159 #[v, .func (.func G) #[] #[q1, q2]] w fun e w' => e = .returned (.bool (xs.any p)) ∧ Below w.heap.size w w' := by
 have HI := zH (ints_idx G q1 q2 p v xs w hr he hp)
 have ha := idxFrom_any p xs 0
 have HA := zH ha
 clear ha hr hp he
 generalize idxFrom p xs 0 = r at *
 go_enter Tryz.func159, Tryz.ntmps159
 go_wp2_with (go_at_call 214; refine HI.out.mono ?_; rintro e w2 ⟨rfl, hb2⟩)
 go_ret
 exact ⟨ret_bool HA.out, hb2⟩
theorem head_get {m : List Int} (h : m ≠ []) : m[0]? = some (headI m) := by cases m with | nil => exact absurd rfl h | cons => rfl
theorem last_get {m : List Int} (h : m ≠ []) : m[m.length - 1]? = some (lastI m) := by
 rw [← List.getLast?_eq_getElem?, lastI, List.getLastD_eq_getLast?, List.getLast?_eq_some_getLast h]
 rfl
set_option maxHeartbeats 4000000 in
theorem askedKey_any (l : List Ev) (al : Option Addr) (cl : Nat) (vm : Value) (m : List Int) (i : Int) (T1 T2 : Nat) (w : World) (hr : Rd Ev.cells 5 w (.slice al l.length cl) l) (hm : Rd intC 1 w vm m) (hi : incI l m) (him : i ∈ m)
 (h1 : w.cell? ⟨T1, 0, none⟩ = some (.slice al l.length cl)) (h2 : w.cell? ⟨T2, 0, none⟩ = some vm) :
 Calls Tryz.prog 160 #[.int .i64 i, .pointer (some ⟨T1, 0, none⟩), .pointer (some ⟨T2, 0, none⟩)] w fun e w' => e = .returned (.bool (!decide ((evAt l i).key = (evAt l (headI m)).key))) ∧ Below w.heap.size w w' := by
 have hv := hi.2.2 i him
 have hh := hi.2.2 _ (headI_mem hi.1)
 have hg := head_get hi.1
 obtain ⟨a0, c0, rfl⟩ : ∃ a c, vm = .slice a m.length c := by obtain ⟨_, a, c, rfl, _⟩ := hm; exact ⟨a, c, rfl⟩
 obtain ⟨bm, om, rfl, _, hcm⟩ := rd_at hm hg
 have x0 : w.cell? ⟨bm, om, none⟩ = some (.int .i64 (headI m)) := by have := hcm 0 _ rfl; simpa using this
 obtain ⟨ni, rfl⟩ : ∃ ni : Nat, i = (ni : Int) := ⟨i.toNat, by omega⟩
 obtain ⟨nh, hnh⟩ : ∃ nh : Nat, headI m = (nh : Int) := ⟨(headI m).toNat, by omega⟩
 rw [hnh] at x0 hh ⊢
 obtain ⟨bl, ol, rfl, _, hc1⟩ := rd_at hr (evAt_get (l := l) (i := ni) (by omega))
 obtain ⟨_, _, e, _, hc2⟩ := rd_at hr (evAt_get (l := l) (i := nh) (by omega))
 injection e with e
 injection e with e1 e2
 subst e1; subst e2
 have y0 : w.cell? ⟨bl, ol + ni * 5 + 3, none⟩ = some (.int .i64 (evAt l ni).key) := hc1 3 _ rfl
 have z0 : w.cell? ⟨bl, ol + nh * 5 + 3, none⟩ = some (.int .i64 (evAt l nh).key) := hc2 3 _ rfl
 have hml : 0 < m.length := by cases m with | nil => exact absurd rfl hi.1 | cons => simp
 generalize (evAt l (nh : Int)).key = kh at *
 generalize (evAt l (ni : Int)).key = ki at *
 have n1 : (ni : Int) < (l.length : Int) := by omega
 have n2 : (nh : Int) < (l.length : Int) := by omega
 have n3 : (0 : Int) < (m.length : Int) := by omega
 have hb2 : Below w.heap.size w w.drew := (Below.refl _ _).drew
 have HB := zH hb2
 replace h1 := zB hb2 h1
 replace h2 := zB hb2 h2
 replace x0 := zB hb2 x0
 replace y0 := zB hb2 y0
 replace z0 := zB hb2 z0
 clear hc1 hc2 hcm hr hm hi him hg hnh hb2 hv hh
 by_cases hk : ki = kh
 all_goals
  go_enter Tryz.func160, Tryz.ntmps160
  go_wp2_with fail
  refine zR 16 (S := fun W => W.cell? ⟨T1, 0, none⟩ = some (.slice (some ⟨bl, ol, none⟩) l.length cl) ∧ W.cell? ⟨T2, 0, none⟩ = some (.slice (some ⟨bm, om, none⟩) m.length c0) ∧ W.cell? ⟨bm, om, none⟩ = some (.int .i64 nh) ∧ W.cell? ⟨bl, ol + ni * 5 + 3, none⟩ = some (.int .i64 ki) ∧ W.cell? ⟨bl, ol + nh * 5 + 3, none⟩ = some (.int .i64 kh)) (by kernel_rfl) (by kernel_rfl) rfl ⟨h1, h2, x0, y0, z0⟩ (fun hHeld => ?_)
  try simp only [List.reduceReplicate]
  repeat refine takeA [] (h := ?_)
  refine wpAnyH_done (by kernel_rfl) ?_ _
  go_wp2
  go_ret
  exact ⟨ret_bool (by simp [hk]), HB.out⟩
theorem askedP_eq {l : List Ev} {m : List Int} {near : Int} {same : Bool} : askedP l m near same = (decide ((evAt l (lastI m)).at_ - (evAt l (headI m)).at_ ≤ near) && (!same || !m.any fun i => !decide ((evAt l i).key = (evAt l (headI m)).key))) := by
 unfold askedP
 congr 2
 rw [List.all_eq_not_any_not]
set_option maxHeartbeats 8000000 in
theorem asked_any (l : List Ev) (al : Option Addr) (cl : Nat) (vm : Value) (m : List Int) (near : Int) (same : Bool) (w : World) (hr : Rd Ev.cells 5 w (.slice al l.length cl) l) (hat : ∀ e ∈ l, 0 ≤ e.at_ ∧ e.at_ ≤ 200) (hm : Rd intC 1 w vm m) (hi : incI l m) :
 Calls Tryz.prog 94 #[.slice al l.length cl, vm, .int .i64 near, .bool same] w fun e w' => e = .returned (.bool (askedP l m near same)) ∧ Below w.heap.size w w' := by
 have HA := zH (askedP_eq (l := l) (m := m) (near := near) (same := same))
 have hhv := hi.2.2 _ (headI_mem hi.1)
 have hlv := hi.2.2 _ (lastI_mem hi.1)
 have hg := head_get hi.1
 have hgl := last_get hi.1
 obtain ⟨a0, c0, rfl⟩ : ∃ a c, vm = .slice a m.length c := by obtain ⟨_, a, c, rfl, _⟩ := hm; exact ⟨a, c, rfl⟩
 obtain ⟨bm, om, rfl, _, hcm⟩ := rd_at hm hg
 obtain ⟨_, _, e, _, hcl⟩ := rd_at hm hgl
 injection e with e
 injection e with e1 e2
 subst e1; subst e2
 obtain ⟨pl, hpl⟩ : ∃ pl, pl = m.length - 1 := ⟨_, rfl⟩
 rw [← hpl] at hcl
 have hml : 0 < m.length := by cases m with | nil => exact absurd rfl hi.1 | cons => simp
 have hm63 := hm.1
 have x0 : w.cell? ⟨bm, om, none⟩ = some (.int .i64 (headI m)) := by have := hcm 0 _ rfl; simpa using this
 have x1 : w.cell? ⟨bm, om + pl, none⟩ = some (.int .i64 (lastI m)) := by have := hcl 0 _ rfl; simpa using this
 obtain ⟨nh, hnh⟩ : ∃ nh : Nat, headI m = (nh : Int) := ⟨(headI m).toNat, by omega⟩
 obtain ⟨nl, hnl⟩ : ∃ nl : Nat, lastI m = (nl : Int) := ⟨(lastI m).toNat, by omega⟩
 have gh := evAt_get (l := l) (i := nh) (by omega)
 have gl := evAt_get (l := l) (i := nl) (by omega)
 have th := hat _ (List.mem_of_getElem? gh)
 have tl := hat _ (List.mem_of_getElem? gl)
 obtain ⟨bl, ol, rfl, _, hc1⟩ := rd_at hr gh
 obtain ⟨_, _, e, _, hc2⟩ := rd_at hr gl
 injection e with e
 injection e with e1 e2
 subst e1; subst e2
 have y0 : w.cell? ⟨bl, ol + nh * 5 + 2, none⟩ = some (.int .i64 (evAt l nh).at_) := hc1 2 _ rfl
 have z0 : w.cell? ⟨bl, ol + nl * 5 + 2, none⟩ = some (.int .i64 (evAt l nl).at_) := hc2 2 _ rfl
 have HH := zH (show (evAt l (headI m)).at_ = (evAt l nh).at_ by rw [hnh])
 have HL := zH (show (evAt l (lastI m)).at_ = (evAt l nl).at_ by rw [hnl])
 rw [hnh] at x0 hhv
 rw [hnl] at x1 hlv
 obtain ⟨th0, eth⟩ : ∃ z, z = (evAt l (nh : Int)).at_ := ⟨_, rfl⟩
 obtain ⟨tl0, etl⟩ : ∃ z, z = (evAt l (nl : Int)).at_ := ⟨_, rfl⟩
 rw [← eth] at y0 th HH
 rw [← etl] at z0 tl HL
 have n1 : (nh : Int) < (l.length : Int) := by omega
 have n2 : (nl : Int) < (l.length : Int) := by omega
 have n3 : (0 : Int) < (m.length : Int) := by omega
 have n4 : (pl : Int) < (m.length : Int) := by omega
 have n5 : IntKind.i64.wrap ((m.length : Int) - 1) = (pl : Int) := by rw [Go.IntWalk.i64_in _ (by omega)]; omega
 have n6 : IntKind.i64.wrap (tl0 - th0) = tl0 - th0 := Go.IntWalk.i64_in _ (by omega)
 have HR := zH (zA hr (zA hm hi))
 clear hc1 hc2 hcm hcl hr hm hi hg hgl hnh hnl gh gl th tl hhv hlv hpl eth etl hm63
 go_enter Tryz.func94, Tryz.ntmps94
 go_wp2_with fail
 refine named_box2 (G := fun W => Code.wp _ _ _ _ W) w _ _ _ _ fun w2 hb hz hx hy => ?_
 have hbd : Below w.heap.size w w2.drew := hb.trans ((Below.refl w2.heap.size w2).drew.mono hb.size)
 have hb2 : Below w2.heap.size w2 w2.drew := (Below.refl _ _).drew
 have c0' := zB hb2 (show w2.cell? ⟨w.heap.size, 0, none⟩ = some (.slice (some ⟨bl, ol, none⟩) l.length cl) from zC hx 0)
 have c1' := zB hb2 (show w2.cell? ⟨w.heap.size + 1, 0, none⟩ = some (.slice (some ⟨bm, om, none⟩) m.length c0) from zC hy 0)
 have HB := zH hbd
 replace x0 := zB hbd x0
 replace x1 := zB hbd x1
 replace y0 := zB hbd y0
 replace z0 := zB hbd z0
 clear hx hy hz hb hb2 hbd
 refine zR 22 (S := fun W => W.cell? ⟨w.heap.size, 0, none⟩ = some (.slice (some ⟨bl, ol, none⟩) l.length cl) ∧ W.cell? ⟨w.heap.size + 1, 0, none⟩ = some (.slice (some ⟨bm, om, none⟩) m.length c0) ∧ W.cell? ⟨bm, om, none⟩ = some (.int .i64 nh) ∧ W.cell? ⟨bm, om + pl, none⟩ = some (.int .i64 nl) ∧ W.cell? ⟨bl, ol + nh * 5 + 2, none⟩ = some (.int .i64 th0) ∧ W.cell? ⟨bl, ol + nl * 5 + 2, none⟩ = some (.int .i64 tl0)) (by kernel_rfl) (by kernel_rfl) rfl ⟨c0', c1', x0, x1, y0, z0⟩ (fun hHeld => ?_)
 try simp only [List.reduceReplicate]
 repeat refine takeA [] (h := ?_)
 refine wpAnyH_done (by kernel_rfl) ?_ _
 by_cases hgt : near < tl0 - th0
 ·have HF := zH (show askedP l m near same = false by rw [HA.out, HL.out, HH.out, decide_eq_false (by omega), Bool.false_and])
  go_wp2
  go_ret
  exact ⟨ret_bool HF.out.symm, HB.out⟩
 have HF := zH (show askedP l m near same = (!same || !m.any fun i => !decide ((evAt l i).key = (evAt l (headI m)).key)) by rw [HA.out, HL.out, HH.out, decide_eq_true (by omega), Bool.true_and])
 cases same with
 | false =>
  go_wp2
  go_ret
  exact ⟨ret_bool (by rw [HF.out]; rfl), HB.out⟩
 | true =>
  have HC := zH (ints_has 160 (.pointer (some ⟨w.heap.size, 0, none⟩)) (.pointer (some ⟨w.heap.size + 1, 0, none⟩)) (fun i => !decide ((evAt l i).key = (evAt l (headI m)).key)) _ m w2.drew (HR.out.2.1.below HB.out) (enters_of Tryz.func160 (by kernel_rfl) rfl) (fun W i him hW => askedKey_any l _ cl _ m i _ _ W (HR.out.1.below (HB.out.trans (hW.mono HB.out.size))) (HR.out.2.1.below (HB.out.trans (hW.mono HB.out.size))) HR.out.2.2 him (zB hW c0') (zB hW c1')))
  obtain ⟨g, hg⟩ : ∃ g, g = m.any (fun i => !decide ((evAt l i).key = (evAt l (headI m)).key)) := ⟨_, rfl⟩
  rw [← hg] at HC HF
  clear hg
  go_wp2_with (go_at_call 159; go_loud (refine HC.out.mono ?_; rintro e w3 ⟨rfl, hb3⟩))
  go_ret
  exact ⟨ret_bool (by rw [HF.out]; rfl), HB.out.trans (hb3.mono HB.out.size)⟩
end
section
open Go.RowKit Go.Shelf
theorem notAsked_any (l : List Ev) (al : Option Addr) (cl : Nat) (vm : Value) (m : List Int) (near : Int) (same : Bool) (T1 T2 : Nat) (w : World) (hr : Rd Ev.cells 5 w (.slice al l.length cl) l) (hat : ∀ e ∈ l, 0 ≤ e.at_ ∧ e.at_ ≤ 200) (hm : Rd intC 1 w vm m) (hi : incI l m)
 (h1 : w.cell? ⟨T1, 0, none⟩ = some (.slice al l.length cl)) (h6 : w.cell? ⟨T2, 6, none⟩ = some (.int .i64 near)) (h7 : w.cell? ⟨T2, 7, none⟩ = some (.bool same)) :
 Calls Tryz.prog 174 #[vm, .pointer (some ⟨T1, 0, none⟩), .pointer (some ⟨T2, 0, none⟩)] w fun e w' => e = .returned (.bool (!askedP l m near same)) ∧ Below w.heap.size w w' := by
 have HC := zH (asked_any l al cl vm m near same w hr hat hm hi)
 clear hr hat hm hi
 obtain ⟨r, hrr⟩ : ∃ r, r = askedP l m near same := ⟨_, rfl⟩
 rw [← hrr] at HC ⊢
 clear hrr
 go_enter Tryz.func174, Tryz.ntmps174
 go_wp2_with (go_at_call 94; refine HC.out.mono ?_; rintro e w2 ⟨rfl, hb2⟩)
 go_ret
 exact ⟨rfl, hb2⟩
def Stored (w : World) (O lo : Nat) (o : Option (List (List Int))) (b : Bool) (w' : World) : Prop :=
 Fr (fun i => i = O) w w' ∧ if b then ∃ a gs, o = some (nums gs) ∧ w'.heap[O]? = some (.cells #[.slice a gs.length gs.length] 44 (0, 0)) ∧ LL w' lo (.slice a gs.length gs.length) gs ∧ gs.length ≤ 200 else o = none ∧ w'.heap[O]? = w.heap[O]?
set_option maxHeartbeats 4000000 in
theorem matches1_any (l : List Ev) (al : Option Addr) (cl : Nat) (hcl : l.length ≤ cl) (hat : ∀ e ∈ l, 0 ≤ e.at_ ∧ e.at_ ≤ 200) (hl60 : l.length ≤ 60) (f : Form) (op n : Int) (t : Test) (ks : Pats) (v : Value) (near : Int) (same : Bool) (F Q O : Nat) (v0 : Value) (w : World)
 (hs : shape f op t n ks) (hr : Rd Ev.cells 5 w (.slice al l.length cl) l) (hk : RdK w ks v) (hF : w.cell? ⟨F, 0, none⟩ = some (.slice al l.length cl))
 (hQ : w.heap[Q]? = some (.cells (queryA ⟨op, t, n, ks⟩ v near same) 29 (0, 0))) (hO : w.heap[O]? = some (.cells #[v0] 44 (0, 0))) :
 Calls Tryz.prog 172 #[.pointer (some ⟨F, 0, none⟩), .pointer (some ⟨Q, 0, none⟩), .pointer (some ⟨O, 0, none⟩)] w fun e w' => (e = .returned (.tuple #[]) ∧ Stored w O w.heap.size (matchP l f near same) true w') ∨ (e = .panicked tooMany ∧ Stored w O w.heap.size (matchP l f near same) false w') := by
 have HC := zH (all_any l al cl hcl hat hl60 f op n t ks v w hs hr hk)
 obtain ⟨ts, tl, th⟩ := t
 have hOl : O < w.heap.size := (Array.getElem?_eq_some_iff.1 hO).1
 have q0 : w.cell? ⟨Q, 0, none⟩ = some (.int .i64 op) := zC hQ 0
 have q1 : w.cell? ⟨Q, 1, none⟩ = some (.int .i64 ts) := zC hQ 1
 have q2 : w.cell? ⟨Q, 2, none⟩ = some (.int .i64 tl) := zC hQ 2
 have q3 : w.cell? ⟨Q, 3, none⟩ = some (.int .i64 th) := zC hQ 3
 have q4 : w.cell? ⟨Q, 4, none⟩ = some (.int .i64 n) := zC hQ 4
 have q5 : w.cell? ⟨Q, 5, none⟩ = some v := zC hQ 5
 obtain ⟨a0, c0, rfl⟩ : ∃ a c, v = .slice a ks.len c := by obtain ⟨a, c, rfl, _⟩ := hk; exact ⟨a, c, rfl⟩
 have HH := zH (zA hr (zA hF (zA hQ hO)))
 clear hs hk hr hQ hO
 go_enter Tryz.func172, Tryz.ntmps172
 go_wp2_with fail
 refine HC.out.mono ?_
 clear HC q0 q1 q2 q3 q4 q5 hF
 rintro e w3 (⟨ax, g, hA1, rfl, hL, hn, hi, ho, hb3⟩ | ⟨hA1, rfl, hb3⟩)
 rotate_left
 ·exact ⟨rfl, .inr ⟨rfl, zF hb3, by rw [if_neg (by decide), matchP, hA1]; exact ⟨rfl, hb3.block O hOl⟩⟩⟩
 have HD := zH (delRows_any 174 #[.pointer (some ⟨F, 0, none⟩), .pointer (some ⟨Q, 0, none⟩)] (fun p => !askedP l p.2 near same) ax g.length _ w3 g hL.1 (fun p hp => by
  obtain ⟨_, ⟨_, a, c, e, _⟩, _⟩ := hL.2 p hp
  exact ⟨a, c, e⟩) (by omega) (enters_of Tryz.func174 (by kernel_rfl) rfl) (fun W p hp hF => by
  have hbw : Below w.heap.size w W := hb3.trans (hL.fr_below hF (Nat.le_refl _) hb3.size)
  have hrow := (hL.2 p hp).keep hL hF
  exact notAsked_any l al cl p.1 p.2 near same F Q W (HH.out.1.below hbw) hat hrow.2.1 (hi p.2 (List.mem_map.2 ⟨p, hp, rfl⟩)) (zB hbw HH.out.2.1) (zB hbw (zC HH.out.2.2.1 6)) (zB hbw (zC HH.out.2.2.1 7))))
 have H3 := zH (zA hA1 (zA hL (zA hn hb3)))
 clear hA1 hL hn hi ho hb3
 go_wp2_with fail
 refine HD.out.mono ?_
 clear HD
 rintro e w4 ⟨g4, h4, rfl, hw4, hf4⟩
 obtain ⟨hA1, hL, hn, hb3⟩ := H3.out
 have h4o := h4.out
 have hsub : ∀ p ∈ g4, p ∈ g := fun p hp => by rw [h4o] at hp; exact (List.mem_filter.1 hp).1
 have hlen : g4.length ≤ g.length := by rw [h4o]; exact List.length_filter_le _ _
 have hL4 : LL w4 w.heap.size (.slice ax g4.length g.length) g4 := ⟨hw4, fun p hp => (hL.2 p (hsub p hp)).keep hL hf4⟩
 have hb4 : Below w.heap.size w w4 := hb3.trans (hL.fr_below hf4 (Nat.le_refl _) hb3.size)
 have hm : matchP l f near same = some (nums g4) := by
  rw [matchP, hA1, h4o, nums, nums, Option.map_some, List.filter_map]
  congr 2
  refine List.filter_congr fun p hp => ?_
  simp
 have hO4 := (hb4.block O hOl).trans HH.out.2.2.2
 have hclip : Calls Tryz.prog 107 #[.slice ax g4.length g.length] w4 fun e w' => e = .returned (.slice ax g4.length g4.length) ∧ w4 = w' := by
  cases ax with
  | none =>
   have e4 : g.length = 0 := by
    rcases hL.1.2 with ⟨e, _⟩ | ⟨_, _, _, _, e, _⟩
    ·injection e
    ·injection e with e; cases e
   have e5 : g4.length = 0 := by omega
   rw [e4, e5]
   exact clipL_nil w4
  | some a =>
   obtain ⟨b, off, rfl⟩ : ∃ b off, a = ⟨b, off, none⟩ := by
    rcases hL.1.2 with ⟨e, _⟩ | ⟨b, off, _, _, e, _⟩
    ·injection e with e; cases e
    ·injection e with e; injection e with e; exact ⟨b, off, e⟩
   exact clipL_any b off g4.length g.length hlen w4
 have HCL := zH hclip
 have H4 := zH (zA hL4 (zA hb4 (zA hm (zA (show g4.length ≤ 200 by omega) hO4))))
 have c4 := zC hO4 0
 have f4 := zK hO4 0
 clear hA1 hL hn hb3 h4 h4o hw4 hf4 hsub hlen hL4 hb4 hm hO4 hclip
 go_wp2_with (go_at_call 107; refine HCL.out.mono ?_; rintro e w5 ⟨rfl, rfl⟩)
 go_end0
 obtain ⟨hL4, hb4, hm, h200, hO4⟩ := H4.out
 have hfs := fr_setCell w4 ⟨O, 0, none⟩ (.slice ax g4.length g4.length)
 refine .inl ⟨rfl, zT (zF (S := fun i => i = O) hb4) hfs fun _ _ h => h, ?_⟩
 rw [if_pos rfl]
 refine ⟨ax, g4, hm, setCell_blk hO4 _, ?_, h200⟩
 have hclp : LL w4 w.heap.size (.slice ax g4.length g4.length) g4 := by
  refine ⟨?_, hL4.2⟩
  cases ax with
  | none =>
   have e5 : g4 = [] := by
    rcases hL4.1.2 with ⟨_, e⟩ | ⟨_, _, _, _, e, _⟩
    ·exact List.eq_nil_of_length_eq_zero e
    ·injection e with e; cases e
   subst e5
   exact win_nil _ _ _ _ _
  | some a =>
   obtain ⟨b, off, rfl⟩ : ∃ b off, a = ⟨b, off, none⟩ := by
    rcases hL4.1.2 with ⟨e, _⟩ | ⟨b, off, _, _, e, _⟩
    ·injection e with e; cases e
    ·injection e with e; injection e with e; exact ⟨b, off, e⟩
   exact win_end hL4.1 rfl
 exact hclp.away hfs fun i hi he => by
  have h : i = O := he
  omega
def Found (w : World) (o : Option (List (List Int))) (v : Value) (b : Bool) (w' : World) : Prop :=
 Below w.heap.size w w' ∧ if b then ∃ a gs, v = .slice a gs.length gs.length ∧ o = some (nums gs) ∧ LL w' w.heap.size v gs ∧ gs.length ≤ 200 else o = none ∧ v = .slice none 0 0
set_option maxHeartbeats 4000000 in
theorem matches_any (l : List Ev) (al : Option Addr) (cl : Nat) (hcl : l.length ≤ cl) (hat : ∀ e ∈ l, 0 ≤ e.at_ ∧ e.at_ ≤ 200) (hl60 : l.length ≤ 60) (f : Form) (x : Node) (v : Value) (near : Int) (same : Bool) (w : World)
 (hs : shape f x.op x.t x.n x.ks) (hr : Rd Ev.cells 5 w (.slice al l.length cl) l) (hk : RdK w x.ks v) :
 Calls Tryz.prog 99 #[.agg (queryA x v near same), .slice al l.length cl] w fun e w' => ∃ (v' : Value) (b : Bool), e = .returned (.tuple #[v', .bool b]) ∧ Found w (matchP l f near same) v' b w' := by
 have HS := zH (zA hs (zA hr hk))
 clear hs hr hk
 go_enter Tryz.func99, Tryz.ntmps99
 go_wp2_with fail
 generalize hW2 : World.alloc _ _ = w2
 obtain ⟨hb2, hz2, hx0, hx1, hx2⟩ := three_box hW2
 obtain ⟨hs, hr, hk⟩ := HS.out
 have hm := matches1_any l al cl hcl hat hl60 f x.op x.n x.t x.ks v near same (w.heap.size + 1 + 1) w.heap.size (w.heap.size + 1) _ w2 hs (hr.below hb2) (hk.below hb2) (zC hx2 0) hx0 hx1
 refine (enough_any 172 #[.pointer (some ⟨w.heap.size + 1 + 1, 0, none⟩), .pointer (some ⟨w.heap.size, 0, none⟩), .pointer (some ⟨w.heap.size + 1, 0, none⟩)] (enters_of Tryz.func172 (by kernel_rfl) rfl) (fun b w' => Stored w2 (w.heap.size + 1) w2.heap.size (matchP l f near same) b w') w2 hm).mono ?_
 clear hm hs hr hk
 rintro e w4 ⟨b, w3, rfl, ⟨hfr, hst⟩, hb4⟩
 have hb3 : Below w.heap.size w w4 := hb2.trans ((zO hfr hb2.size fun i hi => by have h : i = w.heap.size + 1 := hi; omega).trans (hb4.mono (Nat.le_trans hb2.size hfr.size)))
 cases b with
 | true =>
  rw [if_pos rfl] at hst
  obtain ⟨a, gs, ho, hO, hL, h200⟩ := hst
  have hOl : w.heap.size + 1 < w3.heap.size := (Array.getElem?_eq_some_iff.1 hO).1
  have hO4 := (hb4.block _ hOl).trans hO
  have c4 := zC hO4 0
  have f4 := zK hO4 0
  have g0 : (w4.setCell ⟨w.heap.size + 1, 0, none⟩ (.slice a gs.length gs.length)).cell? ⟨w.heap.size + 1, 0, none⟩ = some (.slice a gs.length gs.length) := zC (setCell_blk (o := 0) hO4 _) 0
  have hfs := fr_setCell w4 ⟨w.heap.size + 1, 0, none⟩ (.slice a gs.length gs.length)
  have hL4 := (hL.below hb4).away hfs fun i hi he => by
   have h : i = w.heap.size + 1 := he
   omega
  have H4 := zH (zA ho (zA (hL4.mono hb2.size) (hb3.trans (zO hfs hb3.size fun i hi => by have h : i = w.heap.size + 1 := hi; omega))))
  clear ho hO hL hOl hO4 hb3 hb4 hfr hb2 hx0 hx1 hx2 hW2 hfs hL4
  go_wp2
  exact bodyPost_ret (v := .tuple #[.slice a gs.length gs.length, .bool true]) (by simp [results, Tryz.results99, go_sem, g0]) rfl ⟨_, true, rfl, H4.out.2.2, by rw [if_pos rfl]; exact ⟨a, gs, rfl, H4.out.1, H4.out.2.1, h200⟩⟩
 | false =>
  rw [if_neg (by decide)] at hst
  obtain ⟨ho, hO⟩ := hst
  have hOl : w.heap.size + 1 < w3.heap.size := by have := hfr.size; omega
  have hO4 := ((hb4.block _ hOl).trans hO).trans hx1
  have c4 := zC hO4 0
  have f4 := zK hO4 0
  have g0 : (w4.setCell ⟨w.heap.size + 1, 0, none⟩ (.slice none 0 0)).cell? ⟨w.heap.size + 1, 0, none⟩ = some (.slice none 0 0) := zC (setCell_blk (o := 0) hO4 _) 0
  have hfs := fr_setCell w4 ⟨w.heap.size + 1, 0, none⟩ (.slice none 0 0)
  have H4 := zH (zA ho (hb3.trans (zO hfs hb3.size fun i hi => by have h : i = w.heap.size + 1 := hi; omega)))
  clear ho hO hOl hO4 hb3 hb4 hfr hb2 hx0 hx1 hx2 hW2 hfs
  go_wp2
  exact bodyPost_ret (v := .tuple #[.slice none 0 0, .bool false]) (by simp [results, Tryz.results99, go_sem, g0]) rfl ⟨_, false, rfl, H4.out.2, by rw [if_neg (by decide)]; exact ⟨H4.out.1, rfl⟩⟩
end
section
open Go.RowKit Go.Shelf
theorem num_at {l : List Ev} {m : List Int} {i : Nat} (hi : incI l m) (h : i < m.length) : ∃ a : Nat, m[i]? = some (a : Int) ∧ numAt m i = a ∧ a < l.length := by
 have hg := List.getElem?_eq_getElem h
 obtain ⟨h1, h2⟩ := hi.2.2 _ (List.getElem_mem h)
 exact ⟨m[i].toNat, by rw [hg, show ((m[i].toNat : Nat) : Int) = m[i] by omega], by unfold numAt; rw [hg]; simp only [Option.getD_some]; omega, by omega⟩
theorem CkAt.num {l : List Ev} {m : List Int} {L : List Form} {al : Option Addr} {cl : Nat} {am : Option Addr} {cm B C r : Nat} {W : World} (h : CkAt l m L al cl am cm B C r W) {i a : Nat} (hm : m[i]? = some (a : Int)) (ha : a < l.length) :
 ∃ bm om bl ol, am = some ⟨bm, om, none⟩ ∧ al = some ⟨bl, ol, none⟩ ∧ bm < B ∧ bl < B ∧ W.cell? ⟨bm, om + i, none⟩ = some (.int .i64 a) ∧ ∀ (j : Nat) (u : Value), (evAt l a).cells[j]? = some u → W.cell? ⟨bl, ol + a * 5 + j, none⟩ = some u := by
 obtain ⟨bm, om, rfl, _, h1⟩ := rd_at h.nums hm
 obtain ⟨bl, ol, rfl, _, h2⟩ := rd_at h.evs (evAt_get ha)
 have g1 := h1 0 _ rfl
 rw [Nat.mul_one, Nat.add_zero] at g1
 exact ⟨bm, om, bl, ol, rfl, rfl, h.nub _ rfl, h.evb _ rfl, g1, h2⟩
section
variable {l : List Ev} {m : List Int} {L : List Form} {al : Option Addr} {cl : Nat} {am : Option Addr} {cm B C r : Nat}
set_option maxHeartbeats 8000000 in
theorem look_one (hinc : incI l m) (t : Test) (v : Value) (n i k : Nat) (w : World) (hik : i ≤ k) (hkm : k ≤ m.length) (hck : CkAt l m L al cl am cm B C r w) (hn : n ≤ 1000) (hm60 : m.length ≤ 1000) :
 Calls Tryz.prog 176 #[.pointer (some ⟨C, 0, none⟩), .agg (patA ⟨1, t, 0, .nil⟩ v), .int .i64 n, .int .i64 i, .int .i64 k] w (CkOut l m L al cl am cm B C r w (isP l m (.one t) i k)) := by
 have hcr := hck.cr
 have hCl := (Array.getElem?_eq_some_iff.1 hck.blk).1
 have hw1 : IntKind.i64.wrap ((n : Int) + 1) = (n : Int) + 1 := Go.IntWalk.i64_in _ (by omega)
 have hw2 : IntKind.i64.wrap ((i : Int) + 1) = (i : Int) + 1 := Go.IntWalk.i64_in _ (by omega)
 obtain ⟨ts, tl, th⟩ := t
 dsimp only [patA] at *
 by_cases hk : k = i + 1
 ·subst hk
  obtain ⟨a, hma, hna, hal⟩ := num_at (i := i) hinc (by omega)
  obtain ⟨bm, om, bl, ol, rfl, rfl, hbm, hbl, hcm, hcl⟩ := hck.num hma hal
  have hres : isP l m (.one ⟨ts, tl, th⟩) i (i + 1) = holdsP ⟨ts, tl, th⟩ (evAt l a) := by rw [isP, hna, decide_eq_true rfl, Bool.true_and]
  rw [hres]
  have hcl0 := hcl 0 _ rfl
  have hcl1 := hcl 1 _ rfl
  have hcl2 := hcl 2 _ rfl
  have hcl3 := hcl 3 _ rfl
  have hcl4 := hcl 4 _ rfl
  clear hcl hres
  generalize evAt l a = ev at *
  obtain ⟨es, id, at_, key, val⟩ := ev
  dsimp only at hcl0 hcl1 hcl2 hcl3 hcl4
  have HC := zH hck
  obtain ⟨c0, c1, c2⟩ := hck.cells
  have HS0 := zH (zA c0 (zA c1 (zA hcm (zA hcl0 (zA hcl1 (zA hcl2 (zA hcl3 hcl4)))))))
  have HI := zH (zA hinc (zA hma hna))
  have EN := zH (enters_of Tryz.func156 (by kernel_rfl) rfl)
  have n1 : (i : Int) < (m.length : Int) := by omega
  have n2 : (a : Int) < (l.length : Int) := by omega
  clear hck c0 c1 c2 hcm hcl0 hcl1 hcl2 hcl3 hcl4 hinc hma hna
  go_enter Tryz.func176, Tryz.ntmps176
  go_wp2_with fail
  refine zX (G := fun W => Code.wp _ _ _ _ W) w _ _ fun w2 hb2 hz2 hx2 => ?_
  have hS : ∀ W, Below w2.heap.size w2 W → (W.cell? ⟨C, 0, none⟩ = some (.slice (some ⟨bl, ol, none⟩) l.length cl) ∧ W.cell? ⟨C, 1, none⟩ = some (.slice (some ⟨bm, om, none⟩) m.length cm)) ∧ (W.cell? ⟨bm, om + i, none⟩ = some (.int .i64 a) ∧ W.cell? ⟨bl, ol + a * 5, none⟩ = some (.int .i64 es) ∧ W.cell? ⟨bl, ol + a * 5 + 1, none⟩ = some (.int .i64 id) ∧ W.cell? ⟨bl, ol + a * 5 + 2, none⟩ = some (.int .i64 at_) ∧ W.cell? ⟨bl, ol + a * 5 + 3, none⟩ = some (.int .i64 key) ∧ W.cell? ⟨bl, ol + a * 5 + 4, none⟩ = some (.int .i64 val)) ∧ W.cell? ⟨w.heap.size, 1, none⟩ = some (.int .i64 ts) ∧ W.cell? ⟨w.heap.size, 2, none⟩ = some (.int .i64 tl) ∧ W.cell? ⟨w.heap.size, 3, none⟩ = some (.int .i64 th) := fun W hW => by
   have hWw := hb2.trans (hW.mono hb2.size)
   obtain ⟨d0, d1, d2, d3, d4, d5, d6, d7⟩ := HS0.out
   exact ⟨⟨zB hWw d0, zB hWw d1⟩, ⟨zB hWw d2, zB hWw d3, zB hWw d4, zB hWw d5, zB hWw d6, zB hWw d7⟩, zB hW (zC hx2 1), zB hW (zC hx2 2), zB hW (zC hx2 3)⟩
  have HS := zH hS
  have x0 := zC hx2 0
  have HB := zH (zA hb2 hx2)
  have HCALL := zH (fun W => holds_any ⟨ts, tl, th⟩ ⟨es, id, at_, key, val⟩ W)
  clear hS hb2 hx2
  try go_wp2_with fail
  refine zR 23 (S := fun W => (W.cell? ⟨C, 0, none⟩ = some (.slice (some ⟨bl, ol, none⟩) l.length cl) ∧ W.cell? ⟨C, 1, none⟩ = some (.slice (some ⟨bm, om, none⟩) m.length cm)) ∧ (W.cell? ⟨bm, om + i, none⟩ = some (.int .i64 a) ∧ W.cell? ⟨bl, ol + a * 5, none⟩ = some (.int .i64 es) ∧ W.cell? ⟨bl, ol + a * 5 + 1, none⟩ = some (.int .i64 id) ∧ W.cell? ⟨bl, ol + a * 5 + 2, none⟩ = some (.int .i64 at_) ∧ W.cell? ⟨bl, ol + a * 5 + 3, none⟩ = some (.int .i64 key) ∧ W.cell? ⟨bl, ol + a * 5 + 4, none⟩ = some (.int .i64 val)) ∧ W.cell? ⟨w.heap.size, 1, none⟩ = some (.int .i64 ts) ∧ W.cell? ⟨w.heap.size, 2, none⟩ = some (.int .i64 tl) ∧ W.cell? ⟨w.heap.size, 3, none⟩ = some (.int .i64 th)) (by kernel_rfl) (by kernel_rfl) rfl (HS.out _ ((Below.refl _ _).drew)) (fun hHeld => ?_)
  try simp only [List.reduceReplicate]
  repeat (first
   | refine takeA [] (h := ?_)
   | (refine callA [] (args := ?_) (R := ?_) (he := ?_) (hc := ?_) (hargs := ?_) (h := ?_)
      rotate_left 2
      (exact EN.out; exact HCALL.out _; rfl; rintro e wz ⟨rfl, hbz⟩; have hbz' : Below w2.heap.size w2 wz := (Below.refl _ _).drew.trans hbz; refine .inl ⟨_, rfl, HS.out _ hbz', fun hHeld => ?_⟩; have HBZ := zH hbz'; clear hbz hbz')
      refine normA (h := ?_)))
  refine wpAnyH_done (by kernel_rfl) ?_ _
  clear hHeld
  go_wp2
  go_ret
  have hbw := HB.out.1.trans (HBZ.out.mono HB.out.1.size)
  exact ⟨rfl, zF hbw, HC.out.below hbw⟩
 ·have hres : isP l m (.one ⟨ts, tl, th⟩) i k = false := by rw [isP, decide_eq_false hk, Bool.false_and]
  rw [hres]
  have HC := zH hck
  have n1 : ((k : Int) == (i : Int) + 1) = false := beq_eq_false_iff_ne.2 (by omega)
  clear hck hinc hres
  go_enter Tryz.func176, Tryz.ntmps176
  go_wp2_with fail
  refine zX (G := fun W => Code.wp _ _ _ _ W) w _ _ fun w2 hb2 hz2 hx2 => ?_
  have x0 := zC hx2 0
  have HB := zH (zA hb2 hx2)
  clear hb2 hx2
  try go_wp2_with fail
  refine zR 23 (S := fun W => True) (by kernel_rfl) (by kernel_rfl) rfl trivial (fun hHeld => ?_)
  try simp only [List.reduceReplicate]
  repeat refine takeA [] (h := ?_)
  refine wpAnyH_done (by kernel_rfl) ?_ _
  clear hHeld
  go_wp2
  go_ret
  have hbw := HB.out.1.trans (((Below.refl w2.heap.size w2).drew).mono HB.out.1.size)
  exact ⟨rfl, zF hbw, HC.out.below hbw⟩
end
end
section
open Go.RowKit Go.Shelf
theorem SubAt.lt {L : List Form} {n : Nat} {f : Form} (h : SubAt L n f) : n < L.length := (List.getElem?_eq_some_iff.1 h.get).1
section
variable {l : List Ev} {m : List Int} {L : List Form} {al : Option Addr} {cl : Nat} {am : Option Addr} {cm B C r q : Nat}
set_option maxHeartbeats 8000000 in
theorem look_or (hI : IsAt l m L al cl am cm B C r 103 q) (a b : Form) (t : Test) (o1 n1 o2 n2 : Int) (t1 t2 : Test) (k1 k2 : Pats) (v : Value) (n i k : Nat) (w : World)
 (hk : RdKB B w (.cons o1 t1 n1 k1 (.cons o2 t2 n2 k2 .nil)) v) (sa : shape a o1 t1 n1 k1) (sb : shape b o2 t2 n2 k2) (hsub : SubAt L n (.or a b)) (hik : i ≤ k) (hkm : k ≤ m.length) (hq : (k - i) * 100 + fsize (.or a b) < q + 1) (hck : CkAt l m L al cl am cm B C r w) (hsz : fsize (.or a b) ≤ 12) (hL : L.length ≤ 1000) :
 Calls Tryz.prog 176 #[.pointer (some ⟨C, 0, none⟩), .agg (patA ⟨3, t, 0, .cons o1 t1 n1 k1 (.cons o2 t2 n2 k2 .nil)⟩ v), .int .i64 n, .int .i64 i, .int .i64 k] w (CkOut l m L al cl am cm B C r w (isP l m (.or a b) i k)) := by
 have hcr := hck.cr
 have hCl := (Array.getElem?_eq_some_iff.1 hck.blk).1
 obtain ⟨M0, hM0, _⟩ := hck.known
 have hrl := hM0.lt
 have hnl := hsub.lt
 obtain ⟨bk, ok, ck, a1, c1, a2, c2, rfl, hbw, hc1, hc2, _, ⟨⟨d0, d1, d2, d3, d4, d5⟩, hk1⟩, ⟨⟨e0, e1, e2, e3, e4, e5⟩, hk2⟩⟩ := two_kids hk
 have sza := shape_size a _ _ _ _ sa
 rw [fsize] at hsz hq
 have hpb := fsize_pos b
 have hpa := fsize_pos a
 have hA := fun W (h1 : RdKB B W k1 (.slice a1 k1.len c1)) h2 => hI a ⟨o1, t1, n1, k1⟩ (.slice a1 k1.len c1) (n + 1) i k W sa h1 hsub.or1 hik hkm (by omega) h2
 have hB := fun W (h1 : RdKB B W k2 (.slice a2 k2.len c2)) h2 => hI b ⟨o2, t2, n2, k2⟩ (.slice a2 k2.len c2) (n + 1 + fsize a) i k W sb h1 hsub.or2 hik hkm (by omega) h2
 have hw1 : IntKind.i64.wrap ((n : Int) + 1) = (n : Int) + 1 := Go.IntWalk.i64_in _ (by omega)
 have hw2 : IntKind.i64.wrap ((n : Int) + 1 + (1 + (k1.cnt : Int))) = (n : Int) + 1 + (1 + (k1.cnt : Int)) := Go.IntWalk.i64_in _ (by omega)
 rw [show ((n + 1 : Nat) : Int) = (n : Int) + 1 by omega] at hA
 rw [show ((n + 1 + fsize a : Nat) : Int) = (n : Int) + 1 + (1 + (k1.cnt : Int)) by omega] at hB
 rw [isP]
 have HP := zH (zA hck (zA hk1 hk2))
 have HQ := zH (zA hq (zA hsz sza))
 have hcnt : 1 + k1.cnt ≤ 1000 := by omega
 clear hI hsub hk hM0 hq hsz sza sa sb hck hk1 hk2
 obtain ⟨t1s, t1l, t1h⟩ := t1
 obtain ⟨t2s, t2l, t2h⟩ := t2
 obtain ⟨ts, tl, th⟩ := t
 dsimp only [patA, Pats.len] at *
 obtain ⟨ra, hra⟩ : ∃ ra, ra = isP l m a i k := ⟨_, rfl⟩
 obtain ⟨rb, hrb⟩ : ∃ rb, rb = isP l m b i k := ⟨_, rfl⟩
 rw [← hra] at hA ⊢
 rw [← hrb] at hB ⊢
 have HA := zH hA
 have HB := zH hB
 clear hA hB hra hrb
 have HD := zH (zA d0 (zA d1 (zA d2 (zA d3 (zA d4 (zA d5 (zA e0 (zA e1 (zA e2 (zA e3 (zA e4 e5)))))))))))
 clear d0 d1 d2 d3 d4 d5 e0 e1 e2 e3 e4 e5
 obtain ⟨bx, hbx⟩ : ∃ bx : Obj, bx = .cells #[.int .i64 3, .int .i64 ts, .int .i64 tl, .int .i64 th, .int .i64 0, .slice (some ⟨bk, ok, none⟩) (0 + 1 + 1) ck] 27 := ⟨_, rfl⟩
 have hBl : B ≤ w.heap.size := by omega
 have hS : ∀ W, Fr (fun i => i = r) (w.alloc bx) W → (W.cell? ⟨w.heap.size, 0, none⟩ = some (.int .i64 3) ∧ W.cell? ⟨w.heap.size, 5, none⟩ = some (.slice (some ⟨bk, ok, none⟩) (0 + 1 + 1) ck)) ∧ (W.cell? ⟨bk, ok, none⟩ = some (.int .i64 o1) ∧ W.cell? ⟨bk, ok + 1, none⟩ = some (.int .i64 t1s) ∧ W.cell? ⟨bk, ok + 2, none⟩ = some (.int .i64 t1l) ∧ W.cell? ⟨bk, ok + 3, none⟩ = some (.int .i64 t1h) ∧ W.cell? ⟨bk, ok + 4, none⟩ = some (.int .i64 n1) ∧ W.cell? ⟨bk, ok + 5, none⟩ = some (.slice a1 k1.len c1)) ∧ (W.cell? ⟨bk, ok + 6, none⟩ = some (.int .i64 o2) ∧ W.cell? ⟨bk, ok + 6 + 1, none⟩ = some (.int .i64 t2s) ∧ W.cell? ⟨bk, ok + 6 + 2, none⟩ = some (.int .i64 t2l) ∧ W.cell? ⟨bk, ok + 6 + 3, none⟩ = some (.int .i64 t2h) ∧ W.cell? ⟨bk, ok + 6 + 4, none⟩ = some (.int .i64 n2) ∧ W.cell? ⟨bk, ok + 6 + 5, none⟩ = some (.slice a2 k2.len c2)) ∧ RdKB B W k1 (.slice a1 k1.len c1) ∧ RdKB B W k2 (.slice a2 k2.len c2) := fun W hW => by
  have hWw : Fr (fun i => i = r) w W := zT (fr_alloc _ _ _) hW fun _ _ h => h
  have hx := (hW.block w.heap.size (by simp) (by omega)).trans (heap_alloc_new w bx)
  rw [hbx] at hx
  have hB := zO hWw hBl (fun i hi => by omega)
  obtain ⟨d0, d1, d2, d3, d4, d5, e0, e1, e2, e3, e4, e5⟩ := HD.out
  have kc : ∀ {o : Nat} {u : Value}, w.cell? ⟨bk, o, none⟩ = some u → W.cell? ⟨bk, o, none⟩ = some u := fun h => fr_cell hWw h (fun e => by have e : bk = r := e; omega)
  exact ⟨⟨zC hx 0, zC hx 5⟩, ⟨kc d0, kc d1, kc d2, kc d3, kc d4, kc d5⟩, ⟨kc e0, kc e1, kc e2, kc e3, kc e4, kc e5⟩, HP.out.2.1.keep hB, HP.out.2.2.keep hB⟩
 have HS := zH hS
 have h0 := HS.out _ (fr_refl _ _)
 have HCK := zH (fun W (h : Fr (fun i => i = r) (w.alloc bx) W) => (zT (fr_alloc _ _ _) h fun _ _ h => h : Fr (fun i => i = r) w W))
 subst hbx
 obtain ⟨⟨z0, z5⟩, ⟨d0, d1, d2, d3, d4, d5⟩, ⟨e0, e1, e2, e3, e4, e5⟩, hk1, hk2⟩ := h0
 have HK1 := zH (zA hk1 (HP.out.1.below (Below.refl w.heap.size w |>.alloc (Nat.le_refl _) (.cells #[.int .i64 3, .int .i64 ts, .int .i64 tl, .int .i64 th, .int .i64 0, .slice (some ⟨bk, ok, none⟩) (0 + 1 + 1) ck] 27))))
 clear hS hk1 hk2
 cases ra
 all_goals
  go_enter Tryz.func176, Tryz.ntmps176
  go_wp2_with (first
   | (go_at_call 225; refine (size_any ⟨o1, ⟨t1s, t1l, t1h⟩, n1, k1⟩ (.slice a1 k1.len c1) _ (HK1.out.1.wide (by simp; omega)) hcnt).mono ?_; rintro e w3 ⟨rfl, hb3⟩
      have hck3 := zH (zA (HK1.out.2.below hb3) (zF (S := fun i => i = r) hb3))
      clear z0 z5 d0 d1 d2 d3 d4 d5 e0 e1 e2 e3 e4 e5 hb3
      obtain ⟨⟨z0, z5⟩, ⟨d0, d1, d2, d3, d4, d5⟩, ⟨e0, e1, e2, e3, e4, e5⟩, hk1, hk2⟩ := HS.out _ hck3.out.2
      have HK3 := zH (zA hk1 hk2)
      clear hk1 hk2)
   | (go_at_call 103; refine (HB.out _ HK4.out.2 hfr4.out.1).mono ?_; rintro e w5 ⟨rfl, hf5, hck5⟩
      have hfr5 := zH (zA hck5 (zT hfr4.out.2 hf5 fun _ _ h => h))
      clear z0 z5 d0 d1 d2 d3 d4 d5 e0 e1 e2 e3 e4 e5 hf5 hck5)
   | (go_at_call 103; refine (HA.out _ HK3.out.1 hck3.out.1).mono ?_; rintro e w4 ⟨rfl, hf4, hck4⟩
      have hfr4 := zH (zA hck4 (zT hck3.out.2 hf4 fun _ _ h => h))
      clear z0 z5 d0 d1 d2 d3 d4 d5 e0 e1 e2 e3 e4 e5 hf4 hck4
      obtain ⟨⟨z0, z5⟩, ⟨d0, d1, d2, d3, d4, d5⟩, ⟨e0, e1, e2, e3, e4, e5⟩, hk1, hk2⟩ := HS.out _ hfr4.out.2
      have HK4 := zH (zA hk1 hk2)
      clear hk1 hk2))
 ·go_ret
  exact ⟨ret_bool (by simp), HCK.out _ hfr5.out.2, hfr5.out.1⟩
 ·go_ret
  exact ⟨ret_bool (by simp), HCK.out _ hfr4.out.2, hfr4.out.1⟩
end
end
end Go.Proofs.YtgiploddoffmjaaGreat
