/- My texts, joined: W43, W44, W45, W46, Base13, W47, W48, W76, W77, Base8, W31, W26. -/
import Derived.Below
import Derived.BigQuiet
import Derived.ChangeKeysEq
import Derived.Deep.AppendLies
import Derived.Deep.DeepCutAuto
import Derived.Deep.LoopGhost
import Derived.Deep.QuietTactic
import Derived.Deep.RegionHeld
import Derived.Deep.RegionHeld3
import Derived.Deep.RegionLaw
import Derived.Defers
import Derived.Ground.Names2Prog
import Derived.Ground.Names8Prog
import Derived.Ground.SlsfProg
import Derived.Handy
import Derived.KernelRfl
import Derived.Laws.AppendOwn
import Derived.Laws.AppendOwnNone
import Derived.Laws.CopyRow
import Derived.Laws.Pointers
import Derived.Laws.StructEq
import Derived.Lib.Hide
import Derived.Lib.Overlaps
import Derived.LoopIn
import Derived.LoopN
import Derived.LoopNIn
import Derived.LoopTactic
import Derived.MapKept
import Derived.Maps.AppendAt
import Derived.Maps.OwnOps
import Derived.Maps.RangeRun
import Derived.Maps.RangeWalk
import Derived.Outline
import Derived.OwnWalk
import Derived.OwnWalkIn
import Derived.RangeFuncBound
import Derived.RangeFuncCalls
import Derived.RangeFuncLeaves
import Derived.RangeFuncNested
import Derived.Recover
import Derived.Shelf.Abstract
import Derived.Shelf.RegionOpen
import Derived.Shelf.SlGeneric
import Derived.Shelf.SlLaysF0
import Derived.Shelf.SlSortCmp.HeapSort1
import Derived.Shelf.SlSortCmp.Insertion
import Derived.Shelf.SlSortCmp.Insertion1
import Derived.Shelf.SlSortCmp.Median1
import Derived.Shelf.SlSortCmp.NoneTotal
import Derived.Shelf.SlSortCmp.PartialInsertion1
import Derived.Shelf.SlSortCmp.Partition1
import Derived.Shelf.SlSortCmp.PartitionEqual1
import Derived.Shelf.SlSortCmp.Pdq1
import Derived.Shelf.SlSortCmp.Pivot1
import Derived.Shelf.SlSortCmp.ReverseRange1
import Derived.Shelf.SlSortCmp.SiftDown1
import Derived.Shelf.SlSortCmp.Whole1
import Derived.Shelf.SlSortCmp.WholeK
import Derived.Shelf.Slices.In.SortNone
import Derived.Shelf.Small.Bits
import Derived.Shelf.Sort.Plain
import Derived.Shelf.Spec.SlicesGrow
import Derived.TacticsInMore
import Derived.Test.YtgiploddoffmjaaGreatProg
import Derived.WalkKit
import Derived.WalkLawsBesides
import Derived.WalkSpells
import Derived.Test.YtgiploddoffmjaaGreatM0
import Derived.Test.YtgiploddoffmjaaGreatM1
import Derived.Test.YtgiploddoffmjaaGreatM2
import Derived.Test.YtgiploddoffmjaaGreatM3
import Derived.Test.YtgiploddoffmjaaGreatM4
import Derived.Test.YtgiploddoffmjaaGreatM5
import Derived.Test.YtgiploddoffmjaaGreatM6
import Derived.Test.YtgiploddoffmjaaGreatM7
import Derived.Test.YtgiploddoffmjaaGreatM8
import Derived.Test.YtgiploddoffmjaaGreatM9
import Derived.Test.YtgiploddoffmjaaGreatM10
import Derived.Test.YtgiploddoffmjaaGreatM11
import Derived.Test.YtgiploddoffmjaaGreatM12
set_option linter.unusedVariables false
set_option linter.unusedSimpArgs false
set_option linter.unusedSectionVars false
set_option maxRecDepth 10000
namespace Go.Proofs.YtgiploddoffmjaaGreat
section
open Go.RowKit Go.Shelf
set_option maxHeartbeats 16000000 in
theorem ends_or (M lo : Nat) (v1 v2 v : Value) (ts : List Test) (es : List Edge) (fa fb : Form) (n o1 n1 o2 n2 : Int) (t t1 t2 tc : Test) (k1 k2 : Pats) (w : World) (h : MkAt w M lo v1 v2 ts es) (hk : RdKB lo w (.cons o1 t1 n1 k1 (.cons o2 t2 n2 k2 .nil)) v)
 (hts : ts.length + (makeP (.or fa fb) ts.length).tests.length ≤ 12) (hes : es.length + 144 * fsize (.or fa fb) ≤ 10000) (hfs : fsize (.or fa fb) ≤ 12) (hA : KidH M lo fa o1 t1 n1 k1) (hB : KidH M lo fb o2 t2 n2 k2) :
 Calls Tryz.prog 77 #[.pointer (some ⟨M, 0, none⟩), .agg (patA ⟨3, t, n, .cons o1 t1 n1 k1 (.cons o2 t2 n2 k2 .nil)⟩ v)] w (EndsR M lo v1 v2 ts es (makeP (.or fa fb) ts.length) w) := by
 obtain ⟨b, o, c, a1, c1, a2, c2, rfl, hbw, hc1, hc2, _, ⟨⟨d0, d1, d2, d3, d4, d5⟩, hk1⟩, ⟨⟨e0, e1, e2, e3, e4, e5⟩, hk2⟩⟩ := two_kids hk
 obtain ⟨ts0, tl, th⟩ := t
 obtain ⟨t1s, t1l, t1h⟩ := t1
 obtain ⟨t2s, t2l, t2h⟩ := t2
 obtain ⟨tcs, tcl, tch⟩ := tc
 simp only [makeP, fsize, List.length_append] at hts hes hfs
 dsimp only [patA, Pats.len] at *
 have HH := zH (zA h (zA hk1 hk2))
 have HA := zH hA
 have HB := zH hB
 have hMl := h.lt
 have hlow := lo_le h
 have al := fun o => (Below.refl w.heap.size w).alloc (Nat.le_refl _) o
 have p0 := fun o => zB (al o) d0
 have p1 := fun o => zB (al o) d1
 have p2 := fun o => zB (al o) d2
 have p3 := fun o => zB (al o) d3
 have p4 := fun o => zB (al o) d4
 have p5 := fun o => zB (al o) d5
 have hse := makeP_size fa ts.length
 have hen := makeP_ends fa ts.length
 have hfo := makeP_follow fa ts.length
 have hse2 := makeP_size fb (ts.length + (makeP fa ts.length).tests.length)
 have hen2 := makeP_ends fb (ts.length + (makeP fa ts.length).tests.length)
 have hfo2 := makeP_follow fb (ts.length + (makeP fa ts.length).tests.length)
 have HQ := zH (zA e0 (zA e1 (zA e2 (zA e3 (zA e4 e5)))))
 clear d0 d1 d2 d3 d4 d5 al h hk1 hk2 hA hB hc1 hc2 hk e0 e1 e2 e3 e4 e5
 go_enter Tryz.func77, Tryz.ntmps77
 go_wp2_with fail
 refine zX (G := fun W => Calls _ _ _ W _) w _ _ fun W2 hb hz hx => ?_
 have hM2 := HH.out.1.below hb
 refine (HA.out W2 v1 v2 (.slice a1 k1.len c1) ts es hM2 (HH.out.2.1.keep (hb.mono hlow)) (by omega) (by omega) (by omega)).mono ?_
 clear p0 p1 p2 p3 p4 p5
 rintro e W3 ⟨vf, vl, u1, u2, rfl, hf, hl, hM3, hG3⟩
 obtain ⟨af, cf, rfl⟩ := hf.form
 obtain ⟨al, cl, rfl⟩ := hl.form
 obtain ⟨hx3, hw1, hw2⟩ := hG3.keep (b := w.heap.size) (by omega) (by omega) (fun i hi => by have := HH.out.1.own1 i hi; omega) (fun i hi => by have := HH.out.1.own2 i hi; omega)
 rw [hx] at hx3
 have hBl3 : Below lo w W3 := (hb.mono hlow).trans (hG3.lo hM2 (Nat.le_trans hlow hb.size))
 have hs3 := hG3.fr.size
 have H3 := zH (zA hf (zA hl (zA hM3 (zA ((MkAt.new (M := M) (v1 := v1) (v2 := v2) hb).trans hG3) (zA hw1 (zA hw2 hBl3))))))
 have hBc : ∀ {a : Addr} {u : Value}, a.block < lo → w.cell? a = some u → W3.cell? a = some u := fun ha hc => (hBl3.cell ha).trans hc
 have b0 : W3.cell? ⟨w.heap.size, 0, none⟩ = some (.int .i64 3) := zC hx3 0
 have b4 : W3.cell? ⟨w.heap.size, 4, none⟩ = some (.int .i64 n) := zC hx3 4
 have b5 : W3.cell? ⟨w.heap.size, 5, none⟩ = some (.slice (some ⟨b, o, none⟩) 2 c) := zC hx3 5
 have al3 := fun o => (Below.refl W3.heap.size W3).alloc (Nat.le_refl _) o
 have b0' := fun o => zB (al3 o) b0
 have b5' := fun o => zB (al3 o) b5
 have q0 := fun x => zB (al3 x) (hBc (a := ⟨b, o + 6, none⟩) hbw HQ.out.1)
 have q1 := fun x => zB (al3 x) (hBc (a := ⟨b, o + 6 + 1, none⟩) hbw HQ.out.2.1)
 have q2 := fun x => zB (al3 x) (hBc (a := ⟨b, o + 6 + 2, none⟩) hbw HQ.out.2.2.1)
 have q3 := fun x => zB (al3 x) (hBc (a := ⟨b, o + 6 + 3, none⟩) hbw HQ.out.2.2.2.1)
 have q4 := fun x => zB (al3 x) (hBc (a := ⟨b, o + 6 + 4, none⟩) hbw HQ.out.2.2.2.2.1)
 have q5 := fun x => zB (al3 x) (hBc (a := ⟨b, o + 6 + 5, none⟩) hbw HQ.out.2.2.2.2.2)
 have HX3 := zH hx3
 clear hf hl hM3 hG3 hx hM2 hw1 hw2 hBl3
 have hwk : IntKind.i64.wrap ((2 : Int) - 1) = 1 := by decide
 clear hBc al3 hx3
 go_wp2_with fail
 refine zX (G := fun W => Calls _ _ _ W _) W3 _ _ fun W4 hb4 hz4 hx4 => ?_
 obtain ⟨hf, hl, hM3, hG3, hw1, hw2, hBl3⟩ := H3.out
 have hM4 := hM3.below hb4
 refine (HB.out W4 u1 u2 (.slice a2 k2.len c2) _ _ hM4 (HH.out.2.2.keep (hBl3.trans (hb4.mono (Nat.le_trans hlow hBl3.size)))) (by rw [List.length_append, show (((ts.length + (makeP fa ts.length).tests.length : Nat)) : Int) = ts.length + (makeP fa ts.length).tests.length by omega]; omega) (by rw [List.length_append]; omega) (by omega)).mono ?_
 clear b0 b4 b5 b0' b5' q0 q1 q2 q3 q4 q5
 rw [List.length_append, show (((ts.length + (makeP fa ts.length).tests.length : Nat)) : Int) = ts.length + (makeP fa ts.length).tests.length by omega]
 rintro e W5 ⟨xf, xl, y1, y2, rfl, hf5, hl5, hM5, hG5⟩
 obtain ⟨axf, cxf, rfl⟩ := hf5.form
 obtain ⟨axl, cxl, rfl⟩ := hl5.form
 have hf4 := (hf.below hb4).grow hM4 hG5
 have hl4 := (hl.below hb4).grow hM4 hG5
 obtain ⟨hx5, _, _⟩ := hG5.keep (b := w.heap.size) (by have := hb4.size; omega) (by omega) hw1 hw2
 obtain ⟨hy5, hy1, hy2⟩ := hG5.keep (b := W3.heap.size) (by omega) (by have := hM3.lt; omega) (fun i hi => by have := hM3.own1 i hi; omega) (fun i hi => by have := hM3.own2 i hi; omega)
 rw [hb4.block w.heap.size (by omega), HX3.out] at hx5
 rw [hx4] at hy5
 have b0 : W5.cell? ⟨w.heap.size, 0, none⟩ = some (.int .i64 3) := zC hx5 0
 have z0 : W5.cell? ⟨W3.heap.size, 0, none⟩ = some (.int .i64 0) := zC hy5 0
 have z1 : W5.cell? ⟨W3.heap.size, 1, none⟩ = some (.int .i64 0) := zC hy5 1
 have z2 : W5.cell? ⟨W3.heap.size, 2, none⟩ = some (.int .i64 n) := zC hy5 2
 have z3 : W5.cell? ⟨W3.heap.size, 3, none⟩ = some (.bool false) := zC hy5 3
 have z4 : W5.cell? ⟨W3.heap.size, 4, none⟩ = some (.int .i64 0) := zC hy5 4
 have z5 : W5.cell? ⟨W3.heap.size, 5, none⟩ = some (.int .i64 0) := zC hy5 5
 have z6 : W5.cell? ⟨W3.heap.size, 6, none⟩ = some (.int .i64 0) := zC hy5 6
 have H5 := zH (zA hf4 (zA hl4 (zA hf5 (zA hl5 (zA hM5 ((hG3.trans (MkAt.new hb4)).trans hG5))))))
 clear hf hl hM3 hG3 hw1 hw2 hBl3 hM4 hf5 hl5 hM5 hG5 hf4 hl4 hx5 hy5 hy1 hy2 hb4 hx4
 go_wp2_with fail
 obtain ⟨hf, hl, hf5, hl5, hM5, hG5⟩ := H5.out
 generalize hW5a : World.alloc _ _ = W5a
 have hb5a : Below W5.heap.size W5 W5a := by rw [← hW5a]; exact (Below.refl _ _).alloc (Nat.le_refl _) _
 refine (intsConcat_any W5.heap.size (.slice af (makeP fa ts.length).first.length cf) (.slice axf (makeP fb (ts.length + (makeP fa ts.length).tests.length)).first.length cxf) _ _ W5a (hf.1.below hb5a) (hf5.1.below hb5a) (by rw [← hW5a]; exact box_at W5 _ _ 0) (by rw [← hW5a]; exact box_at W5 _ _ 1) (by omega) (by omega)).mono ?_
 clear z0 z1 z2 z3 z4 z5 z6
 rintro e W6 ⟨v6, rfl, hw6, hb6⟩
 obtain ⟨a6, c6, rfl, _, _⟩ := zS hw6
 have hb56 : Below W5.heap.size W5 W6 := hb5a.trans (hb6.mono hb5a.size)
 have H6 := zH (zA (hl.below hb56) (zA (hl5.below hb56) (zA (hM5.below hb56) (zA (hG5.trans (MkAt.new hb56)) (IntsAt.of_win hw6)))))
 clear hf hl hf5 hl5 hM5 hG5 hw6 hb6 hb56 hb5a hW5a
 go_wp2_with fail
 obtain ⟨hl, hl5, hM5, hG5, h6⟩ := H6.out
 generalize hW6a : World.alloc _ _ = W6a
 have hb6a : Below W6.heap.size W6 W6a := by rw [← hW6a]; exact (Below.refl _ _).alloc (Nat.le_refl _) _
 refine (intsConcat_any W6.heap.size (.slice al (makeP fa ts.length).last.length cl) (.slice axl (makeP fb (ts.length + (makeP fa ts.length).tests.length)).last.length cxl) _ _ W6a (hl.1.below hb6a) (hl5.1.below hb6a) (by rw [← hW6a]; exact box_at W6 _ _ 0) (by rw [← hW6a]; exact box_at W6 _ _ 1) (by omega) (by omega)).mono ?_
 rintro e W7 ⟨v7, rfl, hw7, hb7⟩
 obtain ⟨a7, c7, rfl, _, _⟩ := zS hw7
 have hb67 : Below W6.heap.size W6 W7 := hb6a.trans (hb7.mono hb6a.size)
 have H7 := zH (zA (h6.below hb67) (zA (IntsAt.of_win hw7) (zA (hM5.below hb67) (hG5.trans (MkAt.new hb67)))))
 clear hl hl5 hM5 hG5 h6 hw7 hb7 hb67 hb6a hW6a
 go_wp2
 go_ret2
 have h1 := H7.out.1
 have h2 := H7.out.2.1
 rw [List.length_append] at h1 h2
 refine ⟨_, _, y1, y2, rfl, h1, h2, ?_, H7.out.2.2.2⟩
 have := H7.out.2.2.1
 simp only [List.append_assoc] at this
 simp only [makeP, List.append_assoc]
 exact this
end
section
open Go.RowKit Go.Shelf
set_option maxHeartbeats 16000000 in
theorem ends_lack (M lo : Nat) (v1 v2 v : Value) (ts : List Test) (es : List Edge) (fa fb : Form) (n o1 n1 o2 n2 : Int) (t t1 t2 tc : Test) (k1 k2 : Pats) (w : World) (h : MkAt w M lo v1 v2 ts es) (hk : RdKB lo w (.cons o1 t1 n1 k1 (.cons 1 tc 0 .nil (.cons o2 t2 n2 k2 .nil))) v)
 (hts : ts.length + (makeP (.lack n fa tc fb) ts.length).tests.length ≤ 12) (hes : es.length + 144 * fsize (.lack n fa tc fb) ≤ 10000) (hfs : fsize (.lack n fa tc fb) ≤ 12) (hA : KidH M lo fa o1 t1 n1 k1) (hB : KidH M lo fb o2 t2 n2 k2) :
 Calls Tryz.prog 77 #[.pointer (some ⟨M, 0, none⟩), .agg (patA ⟨5, t, n, .cons o1 t1 n1 k1 (.cons 1 tc 0 .nil (.cons o2 t2 n2 k2 .nil))⟩ v)] w (EndsR M lo v1 v2 ts es (makeP (.lack n fa tc fb) ts.length) w) := by
 obtain ⟨b, o, c, a1, c1, a3, c3, a2, c2, rfl, hbw, hc1, hc2, ⟨⟨d0, d1, d2, d3, d4, d5⟩, hk1⟩, ⟨f0, f1, f2, f3, f4, f5⟩, ⟨⟨e0, e1, e2, e3, e4, e5⟩, hk2⟩⟩ := three_kids hk
 obtain ⟨ts0, tl, th⟩ := t
 obtain ⟨t1s, t1l, t1h⟩ := t1
 obtain ⟨t2s, t2l, t2h⟩ := t2
 obtain ⟨tcs, tcl, tch⟩ := tc
 simp only [makeP, fsize, List.length_append] at hts hes hfs
 dsimp only [patA, Pats.len] at *
 have HH := zH (zA h (zA hk1 hk2))
 have HA := zH hA
 have HB := zH hB
 have hMl := h.lt
 have hlow := lo_le h
 have al := fun o => (Below.refl w.heap.size w).alloc (Nat.le_refl _) o
 have p0 := fun o => zB (al o) d0
 have p1 := fun o => zB (al o) d1
 have p2 := fun o => zB (al o) d2
 have p3 := fun o => zB (al o) d3
 have p4 := fun o => zB (al o) d4
 have p5 := fun o => zB (al o) d5
 have hse := makeP_size fa ts.length
 have hen := makeP_ends fa ts.length
 have hfo := makeP_follow fa ts.length
 have hse2 := makeP_size fb (ts.length + (makeP fa ts.length).tests.length)
 have hen2 := makeP_ends fb (ts.length + (makeP fa ts.length).tests.length)
 have hfo2 := makeP_follow fb (ts.length + (makeP fa ts.length).tests.length)
 have HQ := zH (zA e0 (zA e1 (zA e2 (zA e3 (zA e4 e5)))))
 have HQ3 := zH (zA f1 (zA f2 f3))
 clear d0 d1 d2 d3 d4 d5 al h hk1 hk2 hA hB hc1 hc2 hk e0 e1 e2 e3 e4 e5 f0 f1 f2 f3 f4 f5
 go_enter Tryz.func77, Tryz.ntmps77
 go_wp2_with fail
 refine zX (G := fun W => Calls _ _ _ W _) w _ _ fun W2 hb hz hx => ?_
 have hM2 := HH.out.1.below hb
 refine (HA.out W2 v1 v2 (.slice a1 k1.len c1) ts es hM2 (HH.out.2.1.keep (hb.mono hlow)) (by omega) (by omega) (by omega)).mono ?_
 clear p0 p1 p2 p3 p4 p5
 rintro e W3 ⟨vf, vl, u1, u2, rfl, hf, hl, hM3, hG3⟩
 obtain ⟨hx3, hw1, hw2⟩ := hG3.keep (b := w.heap.size) (by omega) (by omega) (fun i hi => by have := HH.out.1.own1 i hi; omega) (fun i hi => by have := HH.out.1.own2 i hi; omega)
 rw [hx] at hx3
 have hBl3 : Below lo w W3 := (hb.mono hlow).trans (hG3.lo hM2 (Nat.le_trans hlow hb.size))
 have hs3 := hG3.fr.size
 have H3 := zH (zA hf (zA hl (zA hM3 (zA ((MkAt.new (M := M) (v1 := v1) (v2 := v2) hb).trans hG3) (zA hw1 (zA hw2 hBl3))))))
 have hBc : ∀ {a : Addr} {u : Value}, a.block < lo → w.cell? a = some u → W3.cell? a = some u := fun ha hc => (hBl3.cell ha).trans hc
 have b0 : W3.cell? ⟨w.heap.size, 0, none⟩ = some (.int .i64 5) := zC hx3 0
 have b4 : W3.cell? ⟨w.heap.size, 4, none⟩ = some (.int .i64 n) := zC hx3 4
 have b5 : W3.cell? ⟨w.heap.size, 5, none⟩ = some (.slice (some ⟨b, o, none⟩) 3 c) := zC hx3 5
 have al3 := fun o => (Below.refl W3.heap.size W3).alloc (Nat.le_refl _) o
 have b0' := fun o => zB (al3 o) b0
 have b5' := fun o => zB (al3 o) b5
 have q0 := fun x => zB (al3 x) (hBc (a := ⟨b, o + 6 + 6, none⟩) hbw HQ.out.1)
 have q1 := fun x => zB (al3 x) (hBc (a := ⟨b, o + 6 + 6 + 1, none⟩) hbw HQ.out.2.1)
 have q2 := fun x => zB (al3 x) (hBc (a := ⟨b, o + 6 + 6 + 2, none⟩) hbw HQ.out.2.2.1)
 have q3 := fun x => zB (al3 x) (hBc (a := ⟨b, o + 6 + 6 + 3, none⟩) hbw HQ.out.2.2.2.1)
 have q4 := fun x => zB (al3 x) (hBc (a := ⟨b, o + 6 + 6 + 4, none⟩) hbw HQ.out.2.2.2.2.1)
 have q5 := fun x => zB (al3 x) (hBc (a := ⟨b, o + 6 + 6 + 5, none⟩) hbw HQ.out.2.2.2.2.2)
 have sq0 := hBc (a := ⟨b, o + 6 + 6, none⟩) hbw HQ.out.1
 have sq1 := hBc (a := ⟨b, o + 6 + 6 + 1, none⟩) hbw HQ.out.2.1
 have sq2 := hBc (a := ⟨b, o + 6 + 6 + 2, none⟩) hbw HQ.out.2.2.1
 have sq3 := hBc (a := ⟨b, o + 6 + 6 + 3, none⟩) hbw HQ.out.2.2.2.1
 have sq4 := hBc (a := ⟨b, o + 6 + 6 + 4, none⟩) hbw HQ.out.2.2.2.2.1
 have sq5 := hBc (a := ⟨b, o + 6 + 6 + 5, none⟩) hbw HQ.out.2.2.2.2.2
 have HX3 := zH hx3
 clear hf hl hM3 hG3 hx hM2 hw1 hw2 hBl3
 have hwk : IntKind.i64.wrap ((3 : Int) - 1) = 2 := by decide
 have r1 := fun x => zB (al3 x) (hBc (a := ⟨b, o + 6 + 1, none⟩) hbw HQ3.out.1)
 have r2 := fun x => zB (al3 x) (hBc (a := ⟨b, o + 6 + 2, none⟩) hbw HQ3.out.2.1)
 have r3 := fun x => zB (al3 x) (hBc (a := ⟨b, o + 6 + 3, none⟩) hbw HQ3.out.2.2)
 have s1 := hBc (a := ⟨b, o + 6 + 1, none⟩) hbw HQ3.out.1
 have s2 := hBc (a := ⟨b, o + 6 + 2, none⟩) hbw HQ3.out.2.1
 have s3 := hBc (a := ⟨b, o + 6 + 3, none⟩) hbw HQ3.out.2.2
 clear hBc al3 hx3
 go_wp2_with fail
 refine zX (G := fun W => Code.wp _ _ _ _ W) W3 _ _ fun W3b hb3b hz3b hx3b => ?_
 have hbd : Below W3.heap.size W3 W3b.drew := hb3b.trans ((Below.refl W3b.heap.size W3b).drew.mono hb3b.size)
 have g3 : W3b.drew.cell? ⟨W3.heap.size, 3, none⟩ = some (.bool false) := zC hx3b 3
 have g4 : W3b.drew.cell? ⟨W3.heap.size, 4, none⟩ = some (.int .i64 0) := zC hx3b 4
 have g5 : W3b.drew.cell? ⟨W3.heap.size, 5, none⟩ = some (.int .i64 0) := zC hx3b 5
 have g6 : W3b.drew.cell? ⟨W3.heap.size, 6, none⟩ = some (.int .i64 0) := zC hx3b 6
 have gz : ∀ k, W3b.drew.frozen? ⟨W3.heap.size, k, none⟩ = false := fun k => zK hx3b k
 have gz3 := gz 3
 have hS : ∀ W : World, Below W3.heap.size W3 W → W.cell? ⟨w.heap.size, 5, none⟩ = some (.slice (some ⟨b, o, none⟩) 3 c) ∧ W.cell? ⟨b, o + 6 + 1, none⟩ = some (.int .i64 tcs) ∧ W.cell? ⟨b, o + 6 + 2, none⟩ = some (.int .i64 tcl) ∧ W.cell? ⟨b, o + 6 + 3, none⟩ = some (.int .i64 tch) := fun W hW => ⟨zB hW b5, zB hW s1, zB hW s2, zB hW s3⟩
 have HS := zH hS
 obtain ⟨X1, hX1⟩ : ∃ X1, X1 = W3b.setCell ⟨W3.heap.size, 3, none⟩ (.bool true) := ⟨_, rfl⟩
 have hx1 := setCell_blk (o := 3) hx3b (.bool true)
 have hb1 : Below W3.heap.size W3 X1 := hb3b.trans (zO (by rw [hX1]; exact fr_setCell W3b ⟨W3.heap.size, 3, none⟩ _) hb3b.size fun i hi => by have h : i = W3.heap.size := hi; omega)
 rw [← hX1] at hx1
 have hb1d : Below W3.heap.size W3 X1.drew := hb1.trans ((Below.refl X1.heap.size X1).drew.mono hb1.size)
 have k4 : X1.cell? ⟨W3.heap.size, 4, none⟩ = some (.int .i64 0) := zC hx1 4
 have k5 : X1.cell? ⟨W3.heap.size, 5, none⟩ = some (.int .i64 0) := zC hx1 5
 have k6 : X1.cell? ⟨W3.heap.size, 6, none⟩ = some (.int .i64 0) := zC hx1 6
 have kz4 : X1.frozen? ⟨W3.heap.size, 4, none⟩ = false := zK hx1 4
 have kz5 : X1.frozen? ⟨W3.heap.size, 5, none⟩ = false := zK hx1 5
 have kz6 : X1.frozen? ⟨W3.heap.size, 6, none⟩ = false := zK hx1 6
 obtain ⟨W4, hW4⟩ : ∃ W4, W4 = (((X1.setCell ⟨W3.heap.size, 4, none⟩ (.int .i64 tcs)).setCell ⟨W3.heap.size, 5, none⟩ (.int .i64 tcl)).setCell ⟨W3.heap.size, 6, none⟩ (.int .i64 tch)).drew := ⟨_, rfl⟩
 have hx4' := setCell_blk (o := 6) (setCell_blk (o := 5) (setCell_blk (o := 4) hx1 (.int .i64 tcs)) (.int .i64 tcl)) (.int .i64 tch)
 have hx4 : W4.heap[W3.heap.size]? = some (.cells #[.int .i64 0, .int .i64 0, .int .i64 n, .bool true, .int .i64 tcs, .int .i64 tcl, .int .i64 tch] 123 (0, 0)) := by rw [hW4]; exact hx4'
 have hfr4 : Fr (fun i => i = W3.heap.size) X1 W4 := by
  rw [hW4]
  exact zT (fr_setCell X1 ⟨W3.heap.size, 4, none⟩ _) (zT (fr_setCell _ ⟨W3.heap.size, 5, none⟩ _) (zT (fr_setCell _ ⟨W3.heap.size, 6, none⟩ _) (fr_drewN (fun i => i = W3.heap.size) _ 1) fun i _ h => h) fun i _ h => h) fun i _ h => h
 have hb4 : Below W3.heap.size W3 W4 := hb1.trans (zO hfr4 hb1.size fun i hi => by omega)
 have HX1 := zH hX1
 have HW4 := zH (zA hW4 (zA hx4 hb4))
 clear hx4' hx4 hfr4 hb4 hW4
 have HX4 := zH (zA hx1 (zA hb1 hb1d))
 have HBD := zH hbd
 clear hS hx3b hb3b hz3b gz hbd hX1 hx1 hb1 hb1d
 refine zR 9 (S := fun W => W.cell? ⟨w.heap.size, 5, none⟩ = some (.slice (some ⟨b, o, none⟩) 3 c) ∧ W.cell? ⟨b, o + 6 + 1, none⟩ = some (.int .i64 tcs) ∧ W.cell? ⟨b, o + 6 + 2, none⟩ = some (.int .i64 tcl) ∧ W.cell? ⟨b, o + 6 + 3, none⟩ = some (.int .i64 tch)) (by kernel_rfl) (by kernel_rfl) rfl (HS.out _ HBD.out) (fun hHeld => ?_)
 try simp only [List.reduceReplicate]
 repeat refine takeA [6, 7, 8] (h := ?_)
 refine skipA [] (hS := by rw [← HX1.out]; exact HS.out _ HX4.out.2.2) (h := fun hHeld => ?_)
 rw [← HX1.out] at hHeld ⊢
 try simp only [List.reduceReplicate]
 repeat refine takeA [8] (h := ?_)
 refine skipA [] (hS := by rw [← HW4.out.1]; exact HS.out _ HW4.out.2.2) (h := fun hHeld => ?_)
 rw [← HW4.out.1] at hHeld ⊢
 clear k4 k5 k6 kz4 kz5 kz6 g3 g4 g5 g6 gz3 hHeld
 refine wpAnyH_done (by kernel_rfl) ?_ _
 have hx4 := HW4.out.2.1
 have hb4 := HW4.out.2.2
 have hz4 := (Array.getElem?_eq_some_iff.1 hx4).1
 have w0 := zB hb4 b0
 have w5 := zB hb4 b5
 have wb := fun {a : Addr} {u : Value} (h : W3.cell? a = some u) => zB hb4 h
 have q0' := wb sq0
 have q1' := wb sq1
 have q2' := wb sq2
 have q3' := wb sq3
 have q4' := wb sq4
 have q5' := wb sq5
 have HX4b := zH (zA hx4 (zA hb4 hz4))
 clear hx4 hb4 hz4 wb
 go_wp2_with fail
 obtain ⟨hx4, hb4, hz4⟩ := HX4b.out
 obtain ⟨hf, hl, hM3, hG3, hw1, hw2, hBl3⟩ := H3.out
 have hM4 := hM3.below hb4
 refine (HB.out W4 u1 u2 (.slice a2 k2.len c2) _ _ hM4 (HH.out.2.2.keep (hBl3.trans (hb4.mono (Nat.le_trans hlow hBl3.size)))) (by rw [List.length_append, show (((ts.length + (makeP fa ts.length).tests.length : Nat)) : Int) = ts.length + (makeP fa ts.length).tests.length by omega]; omega) (by rw [List.length_append]; omega) (by omega)).mono ?_
 clear b0 b4 b5 b0' b5' q0 q1 q2 q3 q4 q5
 rw [List.length_append, show (((ts.length + (makeP fa ts.length).tests.length : Nat)) : Int) = ts.length + (makeP fa ts.length).tests.length by omega]
 rintro e W5 ⟨xf, xl, y1, y2, rfl, hf5, hl5, hM5, hG5⟩
 have hf4 := (hf.below hb4).grow hM4 hG5
 have hl4 := (hl.below hb4).grow hM4 hG5
 obtain ⟨hx5, _, _⟩ := hG5.keep (b := w.heap.size) (by have := hb4.size; omega) (by omega) hw1 hw2
 obtain ⟨hy5, hy1, hy2⟩ := hG5.keep (b := W3.heap.size) (by omega) (by have := hM3.lt; omega) (fun i hi => by have := hM3.own1 i hi; omega) (fun i hi => by have := hM3.own2 i hi; omega)
 rw [hb4.block w.heap.size (by omega), HX3.out] at hx5
 rw [hx4] at hy5
 have b0 : W5.cell? ⟨w.heap.size, 0, none⟩ = some (.int .i64 5) := zC hx5 0
 have z0 : W5.cell? ⟨W3.heap.size, 0, none⟩ = some (.int .i64 0) := zC hy5 0
 have z1 : W5.cell? ⟨W3.heap.size, 1, none⟩ = some (.int .i64 0) := zC hy5 1
 have z2 : W5.cell? ⟨W3.heap.size, 2, none⟩ = some (.int .i64 n) := zC hy5 2
 have z3 : W5.cell? ⟨W3.heap.size, 3, none⟩ = some (.bool true) := zC hy5 3
 have z4 : W5.cell? ⟨W3.heap.size, 4, none⟩ = some (.int .i64 tcs) := zC hy5 4
 have z5 : W5.cell? ⟨W3.heap.size, 5, none⟩ = some (.int .i64 tcl) := zC hy5 5
 have z6 : W5.cell? ⟨W3.heap.size, 6, none⟩ = some (.int .i64 tch) := zC hy5 6
 have H5 := zH (zA hf4 (zA hl4 (zA hf5 (zA hl5 (zA hM5 ((hG3.trans (MkAt.new hb4)).trans hG5))))))
 clear hf hl hM3 hG3 hw1 hw2 hBl3 hM4 hf5 hl5 hM5 hG5 hf4 hl4 hx5 hy5 hy1 hy2 hb4 hx4
 go_wp2_with fail
 obtain ⟨hf, hl, hf5, hl5, hM5, hG5⟩ := H5.out
 refine (link_any M lo y1 y2 vl xf _ _ _ _ ⟨0, 0, n, true, ⟨tcs, tcl, tch⟩⟩ W5 hM5 hl hf5 (by omega) (by omega) (by rw [List.length_append, List.length_append]; omega)).mono ?_
 rintro e W6 ⟨rfl, x2, hM6, hG6⟩
 have H6 := zH (zA (hf.grow hM5 hG6) (zA (hl5.grow hM5 hG6) (zA hM6 (hG5.trans hG6))))
 clear hf hl hf5 hl5 hM5 hG5 hM6 hG6 b0 z0 z1 z2 z3 z4 z5 z6
 go_wp2
 go_ret2
 refine ⟨vf, xl, y1, x2, rfl, H6.out.1, H6.out.2.1, ?_, H6.out.2.2.2⟩
 have := H6.out.2.2.1
 simp only [List.append_assoc] at this
 simp only [makeP, List.append_assoc]
 exact this
end
section
open Go.RowKit Go.Shelf
theorem ends_any (M lo : Nat) : ∀ (f : Form) (op n : Int) (t : Test) (ks : Pats), shape f op t n ks → KidH M lo f op t n ks
 | .one t', op, n, t, ks, hs => by
  obtain ⟨rfl, rfl, rfl, rfl⟩ := hs
  intro W v1 v2 u ts es hM hk h1 h2 h3
  exact ends_one M lo v1 v2 u ts es t 0 W hM (by omega)
 | .thn m a b, op, n, t, ks, hs => by
  obtain ⟨rfl, rfl, rfl, o1, t1, n1, k1, o2, t2, n2, k2, rfl, ha, hb⟩ := hs
  intro W v1 v2 u ts es hM hk h1 h2 h3
  exact ends_thn M lo v1 v2 u ts es a b n o1 n1 o2 n2 zeroT t1 t2 zeroT k1 k2 W hM hk h1 h2 h3 (ends_any M lo a _ _ _ _ ha) (ends_any M lo b _ _ _ _ hb)
 | .or a b, op, n, t, ks, hs => by
  obtain ⟨rfl, rfl, rfl, o1, t1, n1, k1, o2, t2, n2, k2, rfl, ha, hb⟩ := hs
  intro W v1 v2 u ts es hM hk h1 h2 h3
  exact ends_or M lo v1 v2 u ts es a b 0 o1 n1 o2 n2 zeroT t1 t2 zeroT k1 k2 W hM hk h1 h2 h3 (ends_any M lo a _ _ _ _ ha) (ends_any M lo b _ _ _ _ hb)
 | .many m a, op, n, t, ks, hs => by
  obtain ⟨rfl, rfl, rfl, o1, t1, n1, k1, rfl, ha⟩ := hs
  intro W v1 v2 u ts es hM hk h1 h2 h3
  exact ends_many M lo v1 v2 u ts es a n o1 n1 zeroT t1 k1 W hM hk h1 h2 h3 (ends_any M lo a _ _ _ _ ha)
 | .lack m a c b, op, n, t, ks, hs => by
  obtain ⟨rfl, rfl, rfl, o1, t1, n1, k1, o2, t2, n2, k2, rfl, ha, hb⟩ := hs
  intro W v1 v2 u ts es hM hk h1 h2 h3
  exact ends_lack M lo v1 v2 u ts es a b n o1 n1 o2 n2 zeroT t1 t2 c k1 k2 W hM hk h1 h2 h3 (ends_any M lo a _ _ _ _ ha) (ends_any M lo b _ _ _ _ hb)
end
section
open Go.RowKit Go.Shelf
attribute [local go_sem] Oper.semAt_some
set_option maxHeartbeats 4000000 in
theorem vals1_in (n L Bn : Nat) (a : Option Addr) (c : Nat) (l : List Int) (hl : l.length ≤ 100000) (W0 : World) (M : Nat → Prop) (J : Nat → World → Prop)
 (hbox : W0.cell? ⟨Bn, 0, none⟩ = some (.slice a l.length c)) (hr : Rd intC 1 W0 (.slice a l.length c) l) (hMB : ¬ M Bn) (hMv : ∀ i, some i = (Value.slice a l.length c).ownBlock → l = [] ∨ ¬ M i)
 (h0 : J 0 W0)
 (hY : ∀ i s W, l[i]? = some s → J i W → Fr (fun j => M j) W0 W → YieldAt Fence.wide n Tryz.prog L #[.int .i64 s] W fun e W' => e = .returned (.bool true) ∧ J (i + 1) W' ∧ Fr (fun j => M j ∨ W0.heap.size ≤ j) W W') :
 CallsIn Fence.wide (n + 1) Tryz.prog 147 #[.func (.yield L) #[] #[], .pointer (some ⟨Bn, 0, none⟩)] W0 fun e W' => (∃ v, e = .returned v) ∧ J l.length W' ∧ Fr (fun j => M j) W0 W' := by
 have HR := zH (zA hr hY)
 have HJ := zH h0
 clear hr hY h0
 refine callsIn_of_wp Tryz.func147 rfl trivial ?_ rfl
 simp only [Tryz.ntmps147, List.size_toArray, List.length_cons, List.length_nil, Nat.reduceAdd, Nat.reduceSub, Array.replicate_succ, Array.replicate_zero, List.push_toArray, List.append_toArray, List.nil_append, List.cons_append]
 gi_wp2
 gi_loopw [7] (fun i W => ∃ m : Nat, i = .int .i64 (m : Int) ∧ m ≤ l.length ∧ J m W ∧ Fr (fun j => M j) W0 W) (fun i _ => l.length - (intOf i).toNat)
 case atStart => exact ⟨0, rfl, by omega, HJ.out, fr_refl _ _⟩
 case round =>
  obtain ⟨i, rfl, hml, hJ, hF⟩ := hrel
  by_cases hlt : i < l.length
  rotate_left
  ·obtain rfl : i = l.length := by omega
   have HZ := zH (zA hJ hF)
   clear hJ hF
   gi_wp2
   go_end0
   exact ⟨⟨_, rfl⟩, HZ.out.1, HZ.out.2⟩
  ·have hx := List.getElem?_eq_getElem hlt
   generalize l[i] = s at hx
   have hrd := rd_move HR.out.1 hF fun j hj => (hMv j hj).resolve_left fun h => by subst h; simp at hlt
   obtain ⟨b, off, rfl, hbl, hc⟩ := rd_at hrd hx
   have q0 : wr.cell? ⟨b, off + i, none⟩ = some (.int .i64 s) := by have := hc 0 _ rfl; simpa using this
   have i0 : (i : Int) < (l.length : Int) := by omega
   obtain ⟨fn, tmps, assign, body, hy, hR⟩ := HR.out.2 i s wr hx hJ hF
   have HX := zH hF
   clear hx hJ hF hrd hc
   gi_wp2_with (refine hR.mono ?_; rintro e w3 ⟨rfl, hJ3, hF3⟩; have HZ := zH (zA hJ3 (zT HX.out hF3 fun j hj h => h.elim id fun h => absurd h (by omega))); clear hJ3 hF3)
   go_roundw
   case rel => exact ⟨i + 1, by go_num, by omega, HZ.out.1, HZ.out.2⟩
   case measure => simp [intOf]; omega
set_option maxRecDepth 100000 in
set_option maxHeartbeats 8000000 in
theorem appendSeq_any (Bn : Nat) (vx : Value) (xs : List Int) (w : World) (hb : w.cell? ⟨Bn, 0, none⟩ = some vx) (hbl : Bn < w.heap.size) (hx : IntsAt w vx xs) (hl : xs.length ≤ 1000) :
 Calls Tryz.prog 206 #[.slice none 0 0, .func (.func 147) #[] #[.pointer (some ⟨Bn, 0, none⟩)]] w fun e w' => ∃ v, e = .returned v ∧ Win intC 1 3 w' v (fun i => w.heap.size ≤ i) xs ∧ Below w.heap.size w w' := by
 obtain ⟨ax, cx, rfl⟩ := hx.form
 have HX := zH hx
 have hown : ∀ i, some i = (Value.slice ax xs.length cx).ownBlock → i < w.heap.size := fun i hi => by
  obtain ⟨cur, q, hg⟩ := hx.2 i hi
  exact (Array.getElem?_eq_some_iff.1 hg).1
 clear hx
 refine (callsIn_wide (n := 3)).1 ?_
 refine callsIn_of_wp_marks Tryz.func206 rfl trivial ?_ rfl
 simp only [Tryz.ntmps206, List.size_toArray, List.length_cons, List.length_nil, Nat.reduceAdd, Nat.reduceSub, Array.replicate_succ, Array.replicate_zero, List.push_toArray, List.append_toArray, List.nil_append, List.cons_append]
 gi_wp2
 generalize hWp : World.alloc _ _ = Wp
 obtain ⟨hbp, hzp, hx0⟩ : Below w.heap.size w Wp ∧ Wp.heap.size = w.heap.size + 1 ∧ Wp.heap[w.heap.size]? = some (.cells #[.slice none 0 0] 31 (0, 0)) := by
  rw [← hWp]; exact ⟨(Below.refl _ _).alloc (Nat.le_refl _) _, by simp, heap_alloc_new w _⟩
 clear hWp
 have hzp1 := Nat.le_of_eq hzp
 have hzp2 := Nat.le_of_eq hzp.symm
 clear hzp
 refine range_wide (by rfl) (enters_of Tryz.func147 (by kernel_rfl) rfl) ?_
 intro fn W1 hbW hzW hD hL1
 have hzW1 := Nat.le_of_eq hzW
 have hzW2 := Nat.le_of_eq hzW.symm
 clear hzW
 obtain ⟨REC, hREC, hL2⟩ : ∃ REC, REC = _ ∧ W1.heap[Wp.heap.size + 1]? = some (.loop REC) := ⟨_, rfl, hL1⟩
 have hob := (hbW.block w.heap.size (by omega)).trans hx0
 have hBW : Below w.heap.size w W1 := hbp.trans (hbW.mono (by omega))
 have hcell : W1.cell? ⟨w.heap.size, 0, none⟩ = some (.slice none 0 0) := zC hob 0
 have hfz := zK hob 0
 obtain ⟨J, hJ⟩ : ∃ J : Nat → World → Prop, ∀ i W, J i W ↔ ∃ (a1 : Option Addr) (c1 : Nat), i ≤ xs.length ∧ W.cell? ⟨w.heap.size, 0, none⟩ = some (.slice a1 i c1) ∧ W.frozen? ⟨w.heap.size, 0, none⟩ = false ∧ WinC 1 3 W (.slice a1 i c1) (fun j => W1.heap.size ≤ j) i ((xs.take i).flatMap intC) ∧ W.heap[Wp.heap.size + 1]? = some (.loop REC) ∧ W.heap[Wp.heap.size]? = some (.deferred (some [])) ∧ Below w.heap.size w W ∧ W1.heap.size ≤ W.heap.size := ⟨_, fun _ _ => Iff.rfl⟩
 refine (vals1_in 1 (Wp.heap.size + 1) Bn ax cx xs (by omega) W1 (fun j => j = w.heap.size ∨ j = Wp.heap.size + 1) J (zB hBW hb) (HX.out.1.below hBW) (fun h => by rcases h with h | h <;> omega) (fun i hi => .inr fun h => by have := hown i hi; rcases h with h | h <;> omega) ((hJ _ _).2 ⟨none, 0, by omega, hcell, hfz, winC_nil _ _ _ _, hL2, hD, hBW, Nat.le_refl _⟩) ?_).mono ?_
 ·rintro i s W hx hj hF
  obtain ⟨a1, c1, j0, j1, j2, j3, j6, j7, j8, j9⟩ := (hJ _ _).1 hj
  have HJI := zH hJ
  clear hj hJ
  refine yield_wide j6 (by rw [hREC]; rfl) ?_
  have hob2 : ∀ i', some i' = (Value.slice a1 i c1).ownBlock → W1.heap.size ≤ i' ∧ i' < W.heap.size := fun i' hi => winC_ob j3 i' hi
  have HJ := zH (zA j3 (zA j6 (zA j7 (zA j8 (zA hx hREC)))))
  have hil : i < xs.length := (List.getElem?_eq_some_iff.1 hx).1
  have HOB := zH hob2
  clear j3 j6 j7 j8 hx hob hD hL1 hL2 hob2
  rw [hREC]
  simp only [List.zip_toArray, List.zip_cons_cons, List.zip_nil_left, List.zip_nil_right, List.foldl_toArray, List.foldl_cons, List.foldl_nil, List.setIfInBounds_toArray, List.set_cons_succ, List.set_cons_zero]
  gi_wp2
  refine ⟨REC, HJ.out.2.1, by rw [HJ.out.2.2.2.2.2], ?_⟩
  refine named_put (by omega) fun W2 hF2 hL2 hz2 => ?_
  have o0 := fr_cell hF2 j1 (by show ¬ w.heap.size = _; omega)
  have of0 := fr_frozen hF2 (by show w.heap.size < _; omega) j2 (by show ¬ w.heap.size = _; omega)
  have hwo := zM HJ.out.1 hF2 fun i' hi h => by omega
  have HQ := zH (zA hF2 (zA hL2 (zA hwo of0)))
  have hs2a := Nat.le_of_eq hz2
  have hs2b := Nat.le_of_eq hz2.symm
  clear hF2 hL2 hREC j1 j2 of0 hwo hz2
  gi_wp2_with (gi_at_builtin; ((refine wpListIn_append_win _ (by rfl) _ _ _ (by rfl) 3 1 8 _ Tryz.underlying31 info_int rfl (by decide) _ _ i _ (by rfl) (zM (winC_block HQ.out.2.2.1) (fr_alloc (fun _ => False) W2 (.cells #[.int .i64 s] 3)) fun _ _ h => h) _ _ _ [.int .i64 s] (by rfl) (by rfl) (World.news_of_block (heap_alloc_new W2 _)) (by simp [Value.oneCell']) (by decide) (by unfold maxLen; omega) (by omega) ?_); intro v3 w3 hwin3 hfr3 hsz3; obtain ⟨a4, c4, rfl, hn4, hm4⟩ := zS hwin3; have F3 : Fr (fun i' => some i' = (Value.slice a1 i c1).ownBlock) W2 w3 := zT (fr_alloc _ W2 _) hfr3 fun _ _ h => h; have of3 := fr_frozen F3 (show w.heap.size < W2.heap.size by omega) HQ.out.2.2.2 (fun h => by have : W1.heap.size ≤ w.heap.size := (HOB.out _ h).1; omega); have o3 := fr_cell F3 o0 (fun h => by have : W1.heap.size ≤ w.heap.size := (HOB.out _ h).1; omega); have H3 := zH (zA F3 (zA hwin3 hsz3)); clear F3 hwin3 hfr3))
  have hyp := HQ.out
  have hne : ∀ i', some i' = (Value.slice a1 i c1).ownBlock → W1.heap.size ≤ i' ∧ i' < W.heap.size := HOB.out
  obtain ⟨hF3, hwin3, hsz3⟩ := H3.out
  have o4 := World.cell?_setCell_same w3 _ (.slice a4 (i + 1) c4) o3
  have of4 : (w3.setCell ⟨w.heap.size, 0, none⟩ (.slice a4 (i + 1) c4)).frozen? ⟨w.heap.size, 0, none⟩ = false := (World.frozen?_setCell _ _ _ _).trans of3
  have hF4 : Fr (fun i' => (some i' = (Value.slice a1 i c1).ownBlock) ∨ i' = w.heap.size) W2 (w3.setCell ⟨w.heap.size, 0, none⟩ (.slice a4 (i + 1) c4)) := zT (fr_mono hF3 fun i' h => .inl h) (fr_setCell w3 _ _) fun i' _ h => .inr h
  have hsz4 : W2.heap.size ≤ (w3.setCell ⟨w.heap.size, 0, none⟩ (.slice a4 (i + 1) c4)).heap.size := hF4.size
  have hw4 := zM hwin3 (fr_setCell w3 ⟨w.heap.size, 0, none⟩ (.slice a4 (i + 1) c4)) fun i' hi (h : i' = w.heap.size) => by
   rcases hi with hi | hi
   ·have := hi.1.2.1; omega
   ·simp at hi; omega
  generalize w3.setCell ⟨w.heap.size, 0, none⟩ (.slice a4 (i + 1) c4) = w4 at *
  have hL4 := (hF4.block (Wp.heap.size + 1) (by omega) (fun h => by rcases h with h | h; have := (hne _ h).1; omega; omega)).trans hyp.2.1
  have hs4 := hF4.size
  have hz2w : Wp.heap.size + 1 < w4.heap.size := by omega
  refine round_end hL4 fun W5 hF5 hL5 hz5 => ?_
  have hF45 : Fr (fun i' => (some i' = (Value.slice a1 i c1).ownBlock) ∨ i' = w.heap.size ∨ i' = Wp.heap.size + 1) W W5 := zT (zT (fr_mono hyp.1 fun i' h => .inr (.inr h)) hF4 fun i' _ h => h.imp id fun h => .inl h) hF5 fun i' _ h => .inr (.inr h)
  have hD5 := (hF45.block Wp.heap.size (by omega) (fun h => by rcases h with h | h | h; have := (hne _ h).1; omega; omega; omega)).trans HJ.out.2.2.1
  refine ⟨rfl, (HJI.out _ _).2 ⟨a4, c4, by omega, ?_, fr_frozen hF5 (by show w.heap.size < _; omega) of4 (by show ¬ w.heap.size = _; omega), ?_, hL5.trans (by rw [HJ.out.2.2.2.2.2]), hD5, HJ.out.2.2.2.1.trans (zO hF45 (by omega) fun i' hi => by rcases hi with h | h | h; have := (hne _ h).1; omega; omega; omega), by omega⟩, fr_mono hF45 fun i' h => ?_⟩
  ·have := fr_cell hF5 o4 (by show ¬ w.heap.size = _; omega)
   simpa using this
  ·have hw5 := zM hw4 hF5 fun i' hi (h : i' = Wp.heap.size + 1) => by
    rcases hi with hi | hi
    ·have := hi.1.2.1; omega
    ·simp at hi; omega
   have hfl : (xs.take (i + 1)).flatMap intC = (xs.take i).flatMap intC ++ [.int .i64 s] := by
    rw [List.take_add_one, HJ.out.2.2.2.2.1, List.flatMap_append]; rfl
   rw [hfl]
   exact zN hw5 fun i' hi => by
    rcases hi with hi | hi
    ·exact hi.1.2.1
    ·simp at hi; omega
  ·rcases h with h | h | h
   ·have := hne _ h
    exact .inr this.1
   ·exact .inl (.inl h)
   ·exact .inl (.inr h)
 ·rintro e W2 ⟨⟨v2, rfl⟩, hj, hFz⟩
  obtain ⟨a1, c1, j0, j1, j2, j3, j6, j7, j8, j9⟩ := (hJ _ _).1 hj
  clear hj hJ
  rw [List.take_length] at j3
  have HJ := zH (zA j3 (zA j7 (zA j8 hL2)))
  refine ⟨_, _, run_endLoop j6 (by rw [hREC]; simp), ?_⟩
  have HRE := zH hREC
  rw [hREC]
  clear j3 j7 j8 hREC hL2 hL1 hob hD hcell hfz
  dsimp only
  refine named_put (by omega) fun W5 hF5 hL5 hz5 => ?_
  have o5 := fr_cell hF5 j1 (by show ¬ w.heap.size = _; omega)
  gi_wp2
  have hK := (hF5.block Wp.heap.size (by omega) (by show ¬ Wp.heap.size = _; omega)).trans HJ.out.2.1
  refine ⟨by simp, .inl ⟨_, _, rfl, run_takeDeferred hK, ?_⟩⟩
  have hF6 : Fr (fun i => i = Wp.heap.size + 1 ∨ i = Wp.heap.size) W2 (W5.putObj Wp.heap.size (.deferred none)) := zT (fr_mono hF5 fun i h => .inl h) (fr_putObj W5 _ _) fun i _ h => .inr h
  exact ⟨.slice a1 xs.length c1, by simp [results, Tryz.results206, go_sem], _, rfl, zN (zM HJ.out.1 hF6 fun i hi h => by rcases h with h | h <;> omega) fun i hi => by omega, HJ.out.2.2.1.trans (zO hF6 (by have := HJ.out.2.2.1.size; omega) fun i hi => by rcases hi with h | h <;> omega)⟩
end
section
open Go.RowKit Go.Shelf Go.Sort
theorem win_sortK {α : Type} [Inhabited α] {enc : α → List Value} {k e : Nat} (hk : ∀ x, (enc x).length = k) (hk0 : 0 < k) {w : World} {b off n c : Nat} {S : Nat → Prop} {xs : List α} (h : Win enc k e w (.slice (some ⟨b, off, none⟩) n c) S xs) (hn : xs.length = n) (d : Array α) (hd : d.size = n) (m : Nat) (os : Array Obj) :
 Win enc k e (sortWorldK enc k w b off m d os) (.slice (some ⟨b, off, none⟩) n c) S d.toList := by
 have hob : b < w.heap.size := (winC_ob h b rfl).2
 have hH := holdsK_win hk h hn
 have hH2 : HoldsK enc k (sortWorldK enc k w b off m d os) b off d := by
  refine holdsK_grow _ _ _ _ _ _ _ (by simp [putRowK, putRow, mapBlock, Sort.ahead]; exact hob) ?_
  exact holdsK_putRowK _ _ _ _ _ _ _ (holdsK_ahead _ _ _ _ _ _ _ hH) (by simp [hd, hn])
 have hlt2 : b < (sortWorldK enc k w b off m d os).heap.size := by simp [sortWorldK, putRowK, putRow, mapBlock, Sort.ahead]; omega
 have h63 : n ≤ 9223372036854775807 := by
  obtain ⟨_, _, e0, _, h0⟩ := zS h
  injection e0 with _ e2 _
  rw [hn] at h0
  exact h0
 have hrd := rd_holdsK hk (c := c) hH2 hlt2 (by omega)
 obtain ⟨_, h⟩ := h
 rw [hn] at h
 rcases h with ⟨hv, _⟩ | ⟨g, o, cap, cur, hv, hS, hg, hnc, hm, hsz, _⟩
 ·cases hv
 ·injection hv with e1 e2 e3
  injection e1 with e1
  injection e1 with e1 e4
  subst e1
  subst e3
  subst e4
  obtain ⟨cur', hcs, hg'⟩ : ∃ cur', cur'.size = cur.size ∧ (sortWorldK enc k w b off m d os).heap[b]? = some (.cells cur' e (0, 0)) := by
   unfold sortWorldK
   rw [heap_grow_old _ _ (by simp [putRowK, putRow, mapBlock, Sort.ahead]; exact hob)]
   simp only [putRowK, putRow, mapBlock, Sort.ahead, Array.getElem?_modify, if_true, hg, Option.map_some, onCells]
   exact ⟨_, by rw [putCells, Array.size_mapIdx], rfl⟩
  have hlen : (d.toList.flatMap enc).length = n * k := by rw [flat_len hk]; simp [hd]
  refine ⟨by rw [hlen]; simp [hd], ?_⟩
  rw [show d.toList.length = n by simpa using hd]
  refine .inr ⟨b, off, c, cur', rfl, hS, hg', hnc, hm, by rw [hcs]; exact hsz, ?_⟩
  apply List.ext_getElem?
  intro j
  by_cases hj : j < n * k
  ·rw [List.getElem?_take, if_pos hj, List.getElem?_drop, Array.getElem?_toList]
   have hju := List.getElem?_eq_getElem (l := d.toList.flatMap enc) (i := j) (by omega)
   rw [hju]
   generalize (d.toList.flatMap enc)[j]'(by omega) = u at hju ⊢
   obtain ⟨i, x, hx, r, hr, hjr, hu⟩ := flat_at hk hk0 _ _ _ hju
   obtain ⟨_, _, e0, _, hc⟩ := rd_at hrd hx
   injection e0 with e0
   injection e0 with e1 e2
   subst e1; subst e2
   have := hc r _ hu
   rw [zC hg'] at this
   rw [hjr, ← Nat.add_assoc]
   exact this
  ·rw [List.getElem?_eq_none (by simp; omega), List.getElem?_eq_none (by omega)]
end
section
open Go.RowKit Go.Shelf Go.Sort
theorem values_any (a : Option Addr) (n c : Nat) (w : World) : Calls Tryz.prog 82 #[.slice a n c] w fun e w' => e = .returned (.func (.func 147) #[] #[.pointer (some ⟨w.heap.size, 0, none⟩)]) ∧ w.alloc (.cells #[.slice a n c] 31) = w' := by
 go_enter Tryz.func82, Tryz.ntmps82
 go_wp2
 go_ret
 exact ⟨rfl, rfl⟩
set_option maxHeartbeats 1000000 in
/-- Numbers that increase already: sorted they are the same, in a row of their own. -/
theorem sorted_any (Bn : Nat) (vx : Value) (xs : List Int) (w : World) (hb : w.cell? ⟨Bn, 0, none⟩ = some vx) (hbl : Bn < w.heap.size) (hx : IntsAt w vx xs) (hl : xs.length ≤ 1000) (h0 : xs ≠ []) (hp : xs.Pairwise (· < ·)) :
 Calls Tryz.prog 81 #[.func (.func 147) #[] #[.pointer (some ⟨Bn, 0, none⟩)]] w fun e w' => ∃ v, e = .returned v ∧ IntsAt w' v xs ∧ Below w.heap.size w w' := by
 have HA := zH (appendSeq_any Bn vx xs w hb hbl hx hl)
 clear hb hbl hx
 have hcol : Calls Tryz.prog 145 #[.func (.func 147) #[] #[.pointer (some ⟨Bn, 0, none⟩)]] w fun e w' => ∃ v, e = .returned v ∧ Win intC 1 3 w' v (fun i => w.heap.size ≤ i) xs ∧ Below w.heap.size w w' := by
  go_enter Tryz.func145, Tryz.ntmps145
  go_wp2_with (go_at_call 206; refine HA.out.mono ?_; rintro e w1 ⟨v1, rfl, hw1, hb1⟩)
  go_ret
  exact ⟨_, rfl, hw1, hb1⟩
 have HC := zH hcol
 clear hcol
 go_enter Tryz.func81, Tryz.ntmps81
 go_wp2_with fail
 refine HC.out.mono ?_
 rintro e w1 ⟨v1, rfl, hw1, hb1⟩
 obtain ⟨a1, c1, rfl, _, _⟩ := zS hw1
 obtain ⟨b, off, rfl⟩ : ∃ b off, a1 = some ⟨b, off, none⟩ := by
  rcases hw1.2 with ⟨_, h2⟩ | ⟨g, off, cap, cur, hv, _⟩
  ·exact absurd (List.eq_nil_of_length_eq_zero h2) h0
  ·injection hv with h1; exact ⟨g, off, h1⟩
 have hob := (winC_ob hw1 b rfl)
 have HS := zH (Tryz.slices_Sort_int b off c1 xs w1 (holds_win1 (.int .i64) hw1 rfl) hob.2 (by omega))
 have hms : xs.mergeSort (fun x y => decide (x ≤ y)) = xs := List.mergeSort_of_pairwise (hp.imp fun h => by simp; omega)
 rw [hms] at HS
 have H1 := zH (zA hw1 (zA hb1 hob))
 clear hw1 hb1 hob hms
 go_wp2_with fail
 refine HS.out.mono ?_
 rintro e w2 ⟨rfl, n, os, rfl⟩
 have hw2 : Win intC 1 3 _ (.slice (some ⟨b, off, none⟩) xs.length c1) (fun i => w.heap.size ≤ i) xs := win_sort (.int .i64) H1.out.1 rfl xs.toArray (by simp) n os
 have hf2 := fr_sort1 (.int .i64) w1 b off n xs.toArray os
 have H2 := zH (zA hw2 (H1.out.2.1.trans (zO hf2 H1.out.2.1.size fun i hi => by have h : i = b := hi; have := H1.out.2.2.1; omega)))
 clear hw2 hf2
 go_wp2
 go_ret
 exact ⟨_, rfl, IntsAt.of_win H2.out.1, H2.out.2⟩
def SmallE := { e : Edge // edgeSm e }
instance : Inhabited SmallE := ⟨⟨⟨0, 0, 0, false, zeroT⟩, by refine ⟨?_, ?_, ?_, ?_, ?_, ?_⟩ <;> (unfold small1; decide)⟩⟩
def SmallE.cells (x : SmallE) : List Value := edgeC x.1
theorem smallE_len (x : SmallE) : x.cells.length = 7 := rfl
theorem smallE_one (x : SmallE) : ∀ v ∈ x.cells, v.oneCell' = true := edge_one x.1
set_option maxHeartbeats 4000000 in
theorem edges_grow (x y : SmallE) (W : World) : Calls Tryz.prog 79 #[.agg x.cells.toArray, .agg y.cells.toArray] W fun e w' => e = .returned (.int .i64 (edgeOrd x.1 y.1)) ∧ ∃ q os', w' = grow (W.drewN q) os' := by
 have hx := x.2
 have hy := y.2
 have HE := zH (edgeOrd_nz x.1 y.1)
 obtain ⟨⟨af, at_, an, al, ⟨s0, alo, ahi⟩⟩, _⟩ := x
 obtain ⟨⟨bf, bt, bn, bl, ⟨bs, blo, bhi⟩⟩, _⟩ := y
 dsimp only [edgeSm, small1, SmallE.cells, edgeC] at *
 have h1 : IntKind.i64.wrap (af - bf) = af - bf := Go.IntWalk.i64_in _ (by omega)
 have h2 : IntKind.i64.wrap (at_ - bt) = at_ - bt := Go.IntWalk.i64_in _ (by omega)
 have h3 : IntKind.i64.wrap (an - bn) = an - bn := Go.IntWalk.i64_in _ (by omega)
 have h4 : IntKind.i64.wrap (s0 - bs) = s0 - bs := Go.IntWalk.i64_in _ (by omega)
 have h5 : IntKind.i64.wrap (alo - blo) = alo - blo := Go.IntWalk.i64_in _ (by omega)
 have h6 : IntKind.i64.wrap (ahi - bhi) = ahi - bhi := Go.IntWalk.i64_in _ (by omega)
 clear hx hy
 obtain ⟨lk, hlk⟩ : ∃ lk : Int, lk = if al ≠ bl then (if al then 1 else -1) else 0 := ⟨_, rfl⟩
 cases al <;> cases bl
 ·go_enter Tryz.func79, Tryz.ntmps79
  go_wp2_with (go_at_call 144; (refine (cmpOr_any (W.heap.size + 1 + 1) [af - bf, at_ - bt, an - bn, 0, s0 - bs, alo - blo, ahi - bhi] _ (by simp) ?_).mono ?_); (intro i x h; rcases i with _ | _ | _ | _ | _ | _ | _ | i <;> simp at h <;> subst h <;> go_simp); rintro e w2 ⟨rfl, rfl⟩)
  go_ret
  exact ⟨ret_int (by rw [HE.out]; rfl), 0, _, by rw [alloc_eq_grow, alloc_eq_grow, alloc_eq_grow, grow_grow, grow_grow]; rfl⟩
 ·go_enter Tryz.func79, Tryz.ntmps79
  go_wp2_with (go_at_call 144; (refine (cmpOr_any (W.heap.size + 1 + 1) [af - bf, at_ - bt, an - bn, -1, s0 - bs, alo - blo, ahi - bhi] _ (by simp) ?_).mono ?_); (intro i x h; rcases i with _ | _ | _ | _ | _ | _ | _ | i <;> simp at h <;> subst h <;> go_simp); rintro e w2 ⟨rfl, rfl⟩)
  go_ret
  exact ⟨ret_int (by rw [HE.out]; rfl), 0, _, by rw [alloc_eq_grow, alloc_eq_grow, alloc_eq_grow, grow_grow, grow_grow]; rfl⟩
 ·go_enter Tryz.func79, Tryz.ntmps79
  go_wp2_with (go_at_call 144; (refine (cmpOr_any (W.heap.size + 1 + 1) [af - bf, at_ - bt, an - bn, 1, s0 - bs, alo - blo, ahi - bhi] _ (by simp) ?_).mono ?_); (intro i x h; rcases i with _ | _ | _ | _ | _ | _ | _ | i <;> simp at h <;> subst h <;> go_simp); rintro e w2 ⟨rfl, rfl⟩)
  go_ret
  exact ⟨ret_int (by rw [HE.out]; rfl), 0, _, by rw [alloc_eq_grow, alloc_eq_grow, alloc_eq_grow, grow_grow, grow_grow]; rfl⟩
 ·go_enter Tryz.func79, Tryz.ntmps79
  go_wp2_with (go_at_call 144; (refine (cmpOr_any (W.heap.size + 1 + 1) [af - bf, at_ - bt, an - bn, 0, s0 - bs, alo - blo, ahi - bhi] _ (by simp) ?_).mono ?_); (intro i x h; rcases i with _ | _ | _ | _ | _ | _ | _ | i <;> simp at h <;> subst h <;> go_simp); rintro e w2 ⟨rfl, rfl⟩)
  go_ret
  exact ⟨ret_int (by rw [HE.out]; rfl), 0, _, by rw [alloc_eq_grow, alloc_eq_grow, alloc_eq_grow, grow_grow, grow_grow]; rfl⟩
theorem ltSmallE (x y : SmallE) : ltOf (fun x y : SmallE => edgeOrd x.1 y.1) x y = decide (edgeOrd x.1 y.1 < 0) := rfl
theorem swoSmallE : SWO (ltOf fun x y : SmallE => edgeOrd x.1 y.1) where
 irrefl x := by rw [ltSmallE]; simpa using edgeOrd_laws.irrefl x.1
 trans x y z h1 h2 := by
  rw [ltSmallE] at *
  simp only [decide_eq_true_eq] at *
  exact edgeOrd_laws.trans _ _ _ h1 h2
 ntrans x y z h1 h2 := by
  rw [ltSmallE] at *
  simp only [decide_eq_false_iff_not] at *
  intro h3
  have f1 := edgeOrd_laws.flip x.1 y.1
  have f2 := edgeOrd_laws.flip y.1 x.1
  by_cases hxy : edgeOrd x.1 y.1 = 0
  ·rw [(edgeOrd_laws.eq _ _).1 hxy] at h3; exact h2 h3
  ·have hyx : edgeOrd y.1 x.1 < 0 := by omega
   exact h2 (edgeOrd_laws.trans _ _ _ hyx h3)
theorem smallE_of : ∀ (es : List Edge), (∀ e ∈ es, edgeSm e) → ∃ gs : List SmallE, es = gs.map fun x => x.1
 | [], _ => ⟨[], rfl⟩
 | p :: t, h => by
  obtain ⟨gs, hg⟩ := smallE_of t fun q hq => h q (List.mem_cons_of_mem _ hq)
  exact ⟨⟨p, h p List.mem_cons_self⟩ :: gs, congrArg (List.cons p) hg⟩
theorem smallE_win {w : World} {v : Value} {e : Nat} {S : Nat → Prop} {gs : List SmallE} : Win edgeC 7 e w v S (gs.map fun x => x.1) ↔ Win SmallE.cells 7 e w v S gs := by
 unfold Win
 rw [List.length_map, List.flatMap_map]
 exact Iff.rfl
set_option maxHeartbeats 1000000 in
theorem sortEdges_any (a : Option Addr) (c : Nat) (S : Nat → Prop) (es : List Edge) (w : World) (hw : Win edgeC 7 123 w (.slice a es.length c) S es) (hl : es.length < 1000000) (hk : ∀ e ∈ es, edgeSm e) :
 Calls Tryz.prog 78 #[.slice a es.length c, .func (.func 79) #[] #[]] w fun e w' =>
  e = .returned (.tuple #[]) ∧ ∃ ss : List Edge, ss.Perm es ∧ (ss.Pairwise fun a b => edgeOrd a b ≤ 0) ∧ Win edgeC 7 123 w' (.slice a es.length c) S ss ∧ Fr (fun i => some i = (Value.slice a es.length c).ownBlock) w w' := by
 obtain ⟨gs, rfl⟩ := smallE_of es hk
 have hw := smallE_win.1 hw
 rw [List.length_map] at *
 clear hk
 cases gs with
 | nil =>
  refine (AnyF.slices_SortFunc_none (P := Tryz.prog) { Tryz.sortEdges with } a c (.func (.func 79) #[] #[]) w).mono ?_
  rintro e w' ⟨rfl, rfl⟩
  exact ⟨rfl, [], List.Perm.refl _, List.Pairwise.nil, hw, fr_refl _ _⟩
 | cons h t =>
  obtain ⟨b, off, rfl⟩ : ∃ b off, a = some ⟨b, off, none⟩ := by
   rcases hw.2 with ⟨h1, h2⟩ | ⟨g, off, cap, cur, hv, _⟩
   ·simp at h2
   ·injection hv with h1; exact ⟨g, off, h1⟩
  have hob : b < w.heap.size := (winC_ob hw b rfl).2
  have hH := holdsK_win smallE_len hw rfl
  have eg : ∀ args w, (callFunc 79 args).run Tryz.prog w = .ok (.enter 79 args) w := enters_of Tryz.func79 (by kernel_rfl) rfl
  have hcon := AnyQ.slices_SortFunc Tryz.sortEdges 7 Tryz.isAgg123 Tryz.sizeOf123 SmallE.cells smallE_len smallE_one (fun x y => edgeOrd x.1 y.1) swoSmallE 79 #[] b off c (h :: t).toArray w eg
   (fun _ _ _ _ x y => edges_grow x y _) hH hob (by simp at hl ⊢; omega)
  refine hcon.mono ?_
  rintro e w' ⟨rfl, d', n, os, hp, hs, rfl⟩
  have hsz : d'.size = (h :: t).length := by simpa using hp.1
  have hw2 := win_sortK smallE_len (by decide) hw rfl d' hsz n os
  refine ⟨rfl, d'.toList.map fun x => x.1, ?_, ?_, smallE_win.2 hw2, fr_mono (fr_sortK _ _ _ _ _ _ _ _) fun i hi => by rw [hi]; rfl⟩
  ·refine List.Perm.map _ ?_
   have := hp.2.2
   rw [show (h :: t).toArray.size = d'.size by simpa using hsz.symm] at this
   have h2 := List.take_of_length_le (l := h :: t) (i := d'.size) (by omega)
   simp only [Array.extract_size, Array.toList_extract, List.extract_eq_take_drop, Nat.sub_zero, List.drop_zero] at this
   rw [h2] at this
   simpa using this
  ·refine List.pairwise_map.2 (List.pairwise_iff_getElem.2 fun i j hi hj hij => ?_)
   rw [Array.length_toList] at hi hj
   have := hs i j (by omega) hij (by rw [← hp.1]; exact hj)
   rw [ltSmallE] at this
   simp only [hi, hj, getElem!_pos, decide_eq_false_iff_not] at this
   have f := edgeOrd_laws.flip (d'[j]).1 (d'[i]).1
   simp only [Array.getElem_toList]
   omega
end
section
open Go.RowKit Go.Shelf
theorem eqlEdge0 (af at_ an s0 lo hi bf bt bn s1 lo1 hi1 : Int) (al bl : Bool) (w : World) : (binOp .eql 123 (.agg #[.int .i64 af, .int .i64 at_, .int .i64 an, .bool al, .int .i64 s0, .int .i64 lo, .int .i64 hi]) (.agg #[.int .i64 bf, .int .i64 bt, .int .i64 bn, .bool bl, .int .i64 s1, .int .i64 lo1, .int .i64 hi1])).run Tryz.prog w = .ok (.bool (decide ((⟨af, at_, an, al, ⟨s0, lo, hi⟩⟩ : Edge) = ⟨bf, bt, bn, bl, ⟨s1, lo1, hi1⟩⟩))) w := by
 have u3 := Tryz.underlying3
 have a3 := Tryz.isAgg3
 have z3 := Tryz.sizeOf3
 have u4 := Tryz.underlying4
 have a4 := Tryz.isAgg4
 have z4 := Tryz.sizeOf4
 have a24 := Tryz.isAgg24
 have z24 := Tryz.sizeOf24
 have hS : Tryz.prog.underlying 123 = some (.struct (Tryz.prog.fieldsOf 123)) := by kernel_rfl
 have hp : Tryz.prog.stoodInHeld 123 = false := by kernel_rfl
 rw [run_eql_struct, show (10000 : Nat) = 9999 + 1 from rfl, run_equalIn_agg w 9999 123 _ _ hS hp]
 simp only [Program.fieldsOf, Tryz.underlying123]
 go_simp
 by_cases h1 : af = bf <;> by_cases h2 : at_ = bt <;> by_cases h3 : an = bn <;> by_cases h4 : al = bl <;> by_cases h5 : s0 = s1 <;> by_cases h6 : lo = lo1 <;> by_cases h7 : hi = hi1 <;> simp [h1, h2, h3, h4, h5, h6, h7]
theorem neqEdge0 (af at_ an s0 lo hi bf bt bn s1 lo1 hi1 : Int) (al bl : Bool) (w : World) : (binOp .neq 123 (.agg #[.int .i64 af, .int .i64 at_, .int .i64 an, .bool al, .int .i64 s0, .int .i64 lo, .int .i64 hi]) (.agg #[.int .i64 bf, .int .i64 bt, .int .i64 bn, .bool bl, .int .i64 s1, .int .i64 lo1, .int .i64 hi1])).run Tryz.prog w = .ok (.bool (!decide ((⟨af, at_, an, al, ⟨s0, lo, hi⟩⟩ : Edge) = ⟨bf, bt, bn, bl, ⟨s1, lo1, hi1⟩⟩))) w := by
 have u3 := Tryz.underlying3
 have a3 := Tryz.isAgg3
 have z3 := Tryz.sizeOf3
 have u4 := Tryz.underlying4
 have a4 := Tryz.isAgg4
 have z4 := Tryz.sizeOf4
 have a24 := Tryz.isAgg24
 have z24 := Tryz.sizeOf24
 have hS : Tryz.prog.underlying 123 = some (.struct (Tryz.prog.fieldsOf 123)) := by kernel_rfl
 have hp : Tryz.prog.stoodInHeld 123 = false := by kernel_rfl
 rw [run_neq_struct, show (10000 : Nat) = 9999 + 1 from rfl, run_equalIn_agg w 9999 123 _ _ hS hp]
 simp only [Program.fieldsOf, Tryz.underlying123]
 go_simp
 by_cases h1 : af = bf <;> by_cases h2 : at_ = bt <;> by_cases h3 : an = bn <;> by_cases h4 : al = bl <;> by_cases h5 : s0 = s1 <;> by_cases h6 : lo = lo1 <;> by_cases h7 : hi = hi1 <;> simp [h1, h2, h3, h4, h5, h6, h7]
section
theorem set_front3 {ys l : List Edge} {n j : Nat} {x : Edge} (hnj : n < j) (hj : j < l.length) (hl : ys.length = l.length) (hd : ys.drop (j - 1) = l.drop (j - 1)) (hx : l[j]? = some x) : (ys.set n x).take (n + 1) = ys.take n ++ [x] ∧ (ys.set n x).drop j = l.drop j ∧ (ys.set n x).length = l.length := by
 refine ⟨?_, ?_, by simp [hl]⟩
 ·rw [List.take_add_one, List.take_set_of_le (by omega)]
  simp [List.getElem?_set, show n < ys.length by omega]
 ·rw [List.drop_set, if_pos (by omega)]
  have := congrArg (List.drop 1) hd
  rw [List.drop_drop, List.drop_drop, show j - 1 + 1 = j by omega] at this
  exact this
theorem next_drop3 {ys l : List Edge} {j : Nat} (hj : 0 < j) (hd : ys.drop (j - 1) = l.drop (j - 1)) : ys.drop j = l.drop j := by
 have := congrArg (List.drop 1) hd
 rw [List.drop_drop, List.drop_drop, show j - 1 + 1 = j by omega] at this
 exact this
theorem comp_take3 {α : Type} [DecidableEq α] {l : List α} {j : Nat} (h : compactL (l.take j) = l.take j) {x y : α} (hp : 0 < j) (hy : l[j - 1]? = some y) (hx : l[j]? = some x) : compactL (l.take (j + 1)) = if x = y then l.take j else l.take (j + 1) := by
 have e1 : l.take (j + 1) = l.take (j - 1) ++ [y, x] := by
  rw [List.take_add_one, hx]
  have : l.take j = l.take (j - 1) ++ [y] := by
   have := List.take_add_one (l := l) (i := j - 1)
   rw [show j - 1 + 1 = j by omega, hy] at this
   simpa using this
  rw [this]; simp
 have e2 : l.take j = l.take (j - 1) ++ [y] := by
  have := List.take_add_one (l := l) (i := j - 1)
  rw [show j - 1 + 1 = j by omega, hy] at this
  simpa using this
 rw [e1, compact_snoc, ← e2, h]
 by_cases hxy : x = y
 ·rw [if_pos hxy.symm, if_pos hxy]
 ·rw [if_neg (fun h => hxy h.symm), if_neg hxy, e2]; simp
theorem comp_more3 {α : Type} [DecidableEq α] {l : List α} {j : Nat} {x y : α} (hp : 0 < j) (hy : l[j - 1]? = some y) (hx : l[j]? = some x) : compactL (l.take (j + 1)) = if x = y then compactL (l.take j) else compactL (l.take j) ++ [x] := by
 have e2 : l.take j = l.take (j - 1) ++ [y] := by
  have := List.take_add_one (l := l) (i := j - 1)
  rw [show j - 1 + 1 = j by omega, hy] at this
  simpa using this
 have e1 : l.take (j + 1) = l.take (j - 1) ++ [y, x] := by rw [List.take_add_one, hx, e2]; simp
 rw [e1, compact_snoc, ← e2]
 by_cases hxy : x = y
 ·rw [if_pos hxy.symm, if_pos hxy]
 ·rw [if_neg (fun h => hxy h.symm), if_neg hxy]
theorem win_putE {w : World} {b off n c : Nat} {S : Nat → Prop} {xs : List Edge} (h : Win edgeC 7 123 w (.slice (some ⟨b, off, none⟩) n c) S xs) (hn : xs.length = n) {i : Nat} {x : Edge} (y : Edge) (hx : xs[i]? = some x) :
 Win edgeC 7 123 (((((((w.setCell ⟨b, off + i * 7, none⟩ (.int .i64 y.from_)).setCell ⟨b, off + i * 7 + 1, none⟩ (.int .i64 y.to_)).setCell ⟨b, off + i * 7 + 2, none⟩ (.int .i64 y.n)).setCell ⟨b, off + i * 7 + 3, none⟩ (.bool y.lack)).setCell ⟨b, off + i * 7 + 4, none⟩ (.int .i64 y.t.src)).setCell ⟨b, off + i * 7 + 5, none⟩ (.int .i64 y.t.low)).setCell ⟨b, off + i * 7 + 6, none⟩ (.int .i64 y.t.high)) (.slice (some ⟨b, off, none⟩) n c) S (xs.set i y) := by
 have hi := (List.getElem?_eq_some_iff.1 hx).1
 have st : ∀ {w : World} {zs : List Edge} {z : Edge} (r : Nat) (z' : Edge) (u : Value), Win edgeC 7 123 w (.slice (some ⟨b, off, none⟩) n c) S zs → zs.length = n → zs[i]? = some z → r < 7 → edgeC z' = (edgeC z).set r u →
  Win edgeC 7 123 (w.setCell ⟨b, off + i * 7 + r, none⟩ u) (.slice (some ⟨b, off, none⟩) n c) S (zs.set i z') ∧ (zs.set i z').length = n ∧ (zs.set i z')[i]? = some z' := fun r z' u hw hl hz hr he =>
  ⟨(win_set edge_len hw hl hz hr he).1, by simp [hl], by rw [List.getElem?_set]; simp; omega⟩
 have s0 := st 0 ⟨y.from_, x.to_, x.n, x.lack, x.t⟩ (.int .i64 y.from_) h hn hx (by decide) rfl
 have s1 := st 1 ⟨y.from_, y.to_, x.n, x.lack, x.t⟩ (.int .i64 y.to_) s0.1 s0.2.1 s0.2.2 (by decide) rfl
 have s2 := st 2 ⟨y.from_, y.to_, y.n, x.lack, x.t⟩ (.int .i64 y.n) s1.1 s1.2.1 s1.2.2 (by decide) rfl
 have s3 := st 3 ⟨y.from_, y.to_, y.n, y.lack, x.t⟩ (.bool y.lack) s2.1 s2.2.1 s2.2.2 (by decide) rfl
 have s4 := st 4 ⟨y.from_, y.to_, y.n, y.lack, ⟨y.t.src, x.t.low, x.t.high⟩⟩ (.int .i64 y.t.src) s3.1 s3.2.1 s3.2.2 (by decide) rfl
 have s5 := st 5 ⟨y.from_, y.to_, y.n, y.lack, ⟨y.t.src, y.t.low, x.t.high⟩⟩ (.int .i64 y.t.low) s4.1 s4.2.1 s4.2.2 (by decide) rfl
 have s6 := st 6 y (.int .i64 y.t.high) s5.1 s5.2.1 s5.2.2 (by decide) rfl
 simpa [List.set_set] using s6.1
end
end
section
open Go.RowKit Go.Shelf
def enc3 (p : Int × Int × Int) : Value := .agg #[.int .i64 p.1, .int .i64 p.2.1, .int .i64 p.2.2]
theorem key3 : KeyOk Tryz.prog 218 enc3 where
 check := fun _ _ _ => by kernel_rfl
 eq := fun x y w => by
  have u3 := Tryz.underlying3
  have a3 := Tryz.isAgg3
  have z3 := Tryz.sizeOf3
  obtain ⟨a, b, c⟩ := x
  obtain ⟨d, e, f⟩ := y
  have hS : Tryz.prog.underlying 218 = some (.struct (Tryz.prog.fieldsOf 218)) := by kernel_rfl
  have hp : Tryz.prog.stoodInHeld 218 = false := by kernel_rfl
  show (Op.equalIn 10000 _ _ _).run _ _ = _
  rw [show (10000 : Nat) = 9999 + 1 from rfl]
  show (Op.equalIn (9999 + 1) 218 (.agg #[.int .i64 a, .int .i64 b, .int .i64 c]) (.agg #[.int .i64 d, .int .i64 e, .int .i64 f])).run _ _ = _
  rw [run_equalIn_agg w 9999 218 _ _ hS hp]
  simp only [Program.fieldsOf, Tryz.underlying218]
  go_simp
  by_cases h1 : a = d <;> by_cases h2 : b = e <;> by_cases h3 : c = f <;> simp [h1, h2, h3]
 now := fun x y d h => by
  rw [Tryz.underlying218] at h
  injection h with h
  subst h
  rfl
 some := ⟨_, Tryz.underlying218⟩
 bits := fun x => by
  simp [enc3, Instr.sameBits]
def KnownM (l : List Ev) (m : List Int) (L : List Form) (M : Int × Int × Int → Option Value) : Prop :=
 ∀ (n i k : Nat) (v : Value), M ((n : Int), (i : Int), (k : Int)) = some v → ∃ f, L[n]? = some f ∧ v = .bool (isP l m f i k)
theorem KnownM.put {l : List Ev} {m : List Int} {L : List Form} {M : Int × Int × Int → Option Value} (h : KnownM l m L M) {n i k : Nat} {f : Form} (hf : L[n]? = some f) :
 KnownM l m L (fun y => if y = ((n : Int), (i : Int), (k : Int)) then some (.bool (isP l m f i k)) else M y) := by
 intro n' i' k' v hv
 dsimp only at hv
 by_cases e : ((n' : Int), (i' : Int), (k' : Int)) = ((n : Int), (i : Int), (k : Int))
 ·simp only [Prod.mk.injEq] at e
  obtain ⟨e1, e2, e3⟩ := e
  obtain rfl : n' = n := by omega
  obtain rfl : i' = i := by omega
  obtain rfl : k' = k := by omega
  rw [if_pos rfl] at hv
  exact ⟨f, hf, by injection hv with hv; exact hv.symm⟩
 ·rw [if_neg e] at hv
  exact h n' i' k' v hv
structure CkAt (l : List Ev) (m : List Int) (L : List Form) (al : Option Addr) (cl : Nat) (am : Option Addr) (cm B C r : Nat) (W : World) : Prop where
 blk : W.heap[C]? = some (.cells #[.slice al l.length cl, .slice am m.length cm, .map (some r)] 151 (0, 0))
 evs : Rd Ev.cells 5 W (.slice al l.length cl) l
 nums : Rd intC 1 W (.slice am m.length cm) m
 evb : ∀ i, some i = (Value.slice al l.length cl).ownBlock → i < B
 nub : ∀ i, some i = (Value.slice am m.length cm).ownBlock → i < B
 cr : B ≤ r ∧ C ≠ r
 known : ∃ M, MapF enc3 W r M ∧ KnownM l m L M
section
variable {l : List Ev} {m : List Int} {L : List Form} {al : Option Addr} {cl : Nat} {am : Option Addr} {cm B C r : Nat} {W W' : World}
theorem CkAt.fr (h : CkAt l m L al cl am cm B C r W) (hf : Fr (fun i => i = r) W W') (hk : ∃ M, MapF enc3 W' r M ∧ KnownM l m L M) : CkAt l m L al cl am cm B C r W' :=
 ⟨(hf.block C (Array.getElem?_eq_some_iff.1 h.blk).1 h.cr.2).trans h.blk, rd_move h.evs hf (fun i hi e => by have := h.evb i hi; have := h.cr.1; omega), rd_move h.nums hf (fun i hi e => by have := h.nub i hi; have := h.cr.1; omega), h.evb, h.nub, h.cr, hk⟩
theorem CkAt.below (h : CkAt l m L al cl am cm B C r W) (hf : Below W.heap.size W W') : CkAt l m L al cl am cm B C r W' :=
 h.fr (zF hf) (by obtain ⟨M, h1, h2⟩ := h.known; exact ⟨M, h1.move (zF (S := fun _ => False) hf) (fun h => h), h2⟩)
theorem CkAt.cells (h : CkAt l m L al cl am cm B C r W) : W.cell? ⟨C, 0, none⟩ = some (.slice al l.length cl) ∧ W.cell? ⟨C, 1, none⟩ = some (.slice am m.length cm) ∧ W.cell? ⟨C, 2, none⟩ = some (.map (some r)) := ⟨zC h.blk 0, zC h.blk 1, zC h.blk 2⟩
end
def CkOut (l : List Ev) (m : List Int) (L : List Form) (al : Option Addr) (cl : Nat) (am : Option Addr) (cm B C r : Nat) (w : World) (b : Bool) (e : Ending) (w' : World) : Prop :=
 e = .returned (.bool b) ∧ Fr (fun i => i = r) w w' ∧ CkAt l m L al cl am cm B C r w'
def IsAt (l : List Ev) (m : List Int) (L : List Form) (al : Option Addr) (cl : Nat) (am : Option Addr) (cm B C r : Nat) (F : FuncId) (q : Nat) : Prop :=
 ∀ (f : Form) (x : Node) (v : Value) (n i k : Nat) (w : World), shape f x.op x.t x.n x.ks → RdKB B w x.ks v → SubAt L n f → i ≤ k → k ≤ m.length → (k - i) * 100 + fsize f < q → CkAt l m L al cl am cm B C r w →
  Calls Tryz.prog F #[.pointer (some ⟨C, 0, none⟩), .agg (patA x v), .int .i64 n, .int .i64 i, .int .i64 k] w (CkOut l m L al cl am cm B C r w (isP l m f i k))
end
section
open Go.RowKit Go.Shelf
set_option maxHeartbeats 8000000 in
theorem is_step (l : List Ev) (m : List Int) (L : List Form) (al : Option Addr) (cl : Nat) (am : Option Addr) (cm B C r q : Nat) (hl : IsAt l m L al cl am cm B C r 176 q) : IsAt l m L al cl am cm B C r 103 q := by
 intro f x v n i k w hsh hk hsub hik hkm hq hck
 have hlook := fun (W : World) (h1 : RdKB B W x.ks v) (h2 : CkAt l m L al cl am cm B C r W) => hl f x v n i k W hsh h1 hsub hik hkm hq h2
 obtain ⟨M, hM, hKn⟩ := hck.known
 have hgot := fun v' => hKn n i k v'
 have hgf := hsub.get
 have hput := hKn.put (i := i) (k := k) hgf
 have hcr := hck.cr
 have hCl := (Array.getElem?_eq_some_iff.1 hck.blk).1
 have hrl := hM.lt
 obtain ⟨b, hb⟩ : ∃ b, b = isP l m f i k := ⟨_, rfl⟩
 rw [← hb] at hput ⊢
 simp only [← hb] at hlook
 have HL := zH hlook
 have HP := zH (zA hput (zA hKn hb))
 have HC := zH (zA hck (zA hM hk))
 obtain ⟨op, ⟨ts, tl, th⟩, pn, ks⟩ := x
 dsimp only [patA] at *
 clear hl hck hM hKn hlook hput hk hsh hsub hb
 go_enter Tryz.func103, Tryz.ntmps103
 go_wp2_with fail
 refine named_box2 (G := fun W => Code.wp _ _ _ _ W) w _ _ _ _ fun w2 hb2 hz2 hx2 hy2 => ?_
 have HC2 := zH (zA (HC.out.1.below hb2) (HC.out.2.2.keep (hb2.mono (by omega))))
 have hM2 : MapF enc3 w2 r M := HC.out.2.1.move (zF (S := fun _ => False) hb2) (fun h => h)
 have hlk : ∀ W, Below w2.heap.size w2 W → (Instr.lookup 149 (.map (some r)) (.agg #[.int .i64 n, .int .i64 i, .int .i64 k]) true).run Tryz.prog W = .ok (.tuple #[(M (n, i, k)).getD (.bool false), .bool (M (n, i, k)).isSome]) W := fun W hW => by
  have hz : (zeroValue 4).run Tryz.prog W = .ok (.bool false) W := by kernel_rfl
  have := run_lookup_f (P := Tryz.prog) key3 Tryz.underlying149 hz (hM2.move (zF (S := fun _ => False) hW) (fun h => h)) (n, i, k) true
  rw [if_pos rfl] at this
  exact this
 have hcs : ∀ W, Below w2.heap.size w2 W → W.cell? ⟨C, 2, none⟩ = some (.map (some r)) ∧ W.cell? ⟨w.heap.size + 1, 0, none⟩ = some (.int .i64 n) ∧ W.cell? ⟨w.heap.size + 1, 1, none⟩ = some (.int .i64 i) ∧ W.cell? ⟨w.heap.size + 1, 2, none⟩ = some (.int .i64 k) ∧ (Instr.lookup 149 (.map (some r)) (.agg #[.int .i64 n, .int .i64 i, .int .i64 k]) true).run Tryz.prog W = .ok (.tuple #[(M (n, i, k)).getD (.bool false), .bool (M (n, i, k)).isSome]) W := fun W hW => ⟨zB hW HC2.out.1.cells.2.2, zB hW (zC hy2 0), zB hW (zC hy2 1), zB hW (zC hy2 2), hlk W hW⟩
 have HCS := zH hcs
 have HB := zH (zA hb2 (zA hx2 hy2))
 clear hcs hlk hx2 hy2 hb2
 have HM2 := zH hM2
 clear hM2
 obtain ⟨o, ho⟩ : ∃ o, o = M (n, i, k) := ⟨_, rfl⟩
 rw [← ho] at HCS
 simp only [← ho] at hgot
 have HG := zH (zA hgot (zA hgf ho))
 clear hgot hgf ho
 refine zR 11 (S := fun W => W.cell? ⟨C, 2, none⟩ = some (.map (some r)) ∧ W.cell? ⟨w.heap.size + 1, 0, none⟩ = some (.int .i64 n) ∧ W.cell? ⟨w.heap.size + 1, 1, none⟩ = some (.int .i64 i) ∧ W.cell? ⟨w.heap.size + 1, 2, none⟩ = some (.int .i64 k) ∧ (Instr.lookup 149 (.map (some r)) (.agg #[.int .i64 n, .int .i64 i, .int .i64 k]) true).run Tryz.prog W = .ok (.tuple #[o.getD (.bool false), .bool o.isSome]) W) (by kernel_rfl) (by kernel_rfl) rfl (HCS.out _ ((Below.refl _ _).drew)) (fun hHeld => ?_)
 try simp only [List.reduceReplicate]
 repeat refine takeA [] (h := ?_)
 refine wpAnyH_done (by kernel_rfl) ?_ _
 have HB2 := zH (Below.refl w2.heap.size w2).drew
 cases o with
 | some v' =>
  obtain ⟨f', hf', rfl⟩ := HG.out.1 v' rfl
  obtain rfl : f' = f := by have := HG.out.2.1; rw [hf'] at this; injection this
  have hbb := HP.out.2.2
  rw [← hbb] at hHeld
  clear hHeld
  simp only [Option.getD_some, Option.isSome_some]
  go_wp2
  go_ret
  have hbw := HB.out.1.trans (HB2.out.mono HB.out.1.size)
  exact ⟨ret_bool hbb.symm, zF hbw, HC.out.1.below hbw⟩
 | none =>
  simp only [Option.getD_none, Option.isSome_none]
  have hbx := HB.out.2.1
  have p0 := zB HB2.out (zC hbx 0)
  have p1 := zB HB2.out (zC hbx 1)
  have p2 := zB HB2.out (zC hbx 2)
  have p3 := zB HB2.out (zC hbx 3)
  have p4 := zB HB2.out (zC hbx 4)
  have p5 := zB HB2.out (zC hbx 5)
  clear hHeld hbx
  go_wp2_with (go_at_call 176; go_loud (refine (HL.out _ (HC2.out.2.keep (HB2.out.mono (by omega))) (HC2.out.1.below HB2.out)).mono ?_; rintro e w4 ⟨rfl, hf4, hck4⟩))
  have h4 := hf4.size
  obtain ⟨M4, hM4, hK4⟩ := hck4.known
  obtain ⟨wu, hu, hMu, hFu, hsu⟩ := run_update_f (P := Tryz.prog) key3 Tryz.underlying149 (hM4.move (zF (S := fun _ => False) (Below.refl w4.heap.size w4).drew) (fun h => h)) (n, i, k) (.bool b)
  replace hu : (Instr.mapUpdate 149 (.map (some r)) (.agg #[.int .i64 n, .int .i64 i, .int .i64 k]) (.bool b)).run Tryz.prog _ = .ok () wu := hu
  have hb4 : Below w4.heap.size w4 w4.drew := (Below.refl _ _).drew
  have c0 := zB hb4 hck4.cells.2.2
  have hz4 := HB2.out.size
  have hf24 : Fr (fun i => i = r) w2 w4.drew := zT (zT (zF HB2.out) hf4 fun _ _ h => h) (zF hb4) fun _ _ h => h
  have hcs : ∀ W, W = w4.drew → W.cell? ⟨C, 2, none⟩ = some (.map (some r)) ∧ W.cell? ⟨w.heap.size + 1, 0, none⟩ = some (.int .i64 n) ∧ W.cell? ⟨w.heap.size + 1, 1, none⟩ = some (.int .i64 i) ∧ W.cell? ⟨w.heap.size + 1, 2, none⟩ = some (.int .i64 k) := by
   rintro W rfl
   have hxx := (hf24.block (w.heap.size + 1) (by omega) (by omega)).trans HB.out.2.2
   exact ⟨c0, zC hxx 0, zC hxx 1, zC hxx 2⟩
  have HC4 := zH hcs
  have HM4 := zH (zA hck4 (zA hMu (zA hFu (zA hsu (zA (hK4.put (i := i) (k := k) HG.out.2.1) hf24)))))
  clear hcs hck4 hM4 hK4 hMu hFu hsu c0 hf4 hf24 p0 p1 p2 p3 p4 p5
  refine wp_region_takesL 7 6 (S := fun W => W.cell? ⟨C, 2, none⟩ = some (.map (some r)) ∧ W.cell? ⟨w.heap.size + 1, 0, none⟩ = some (.int .i64 n) ∧ W.cell? ⟨w.heap.size + 1, 1, none⟩ = some (.int .i64 i) ∧ W.cell? ⟨w.heap.size + 1, 2, none⟩ = some (.int .i64 k)) (by kernel_rfl) (by kernel_rfl) rfl (HC4.out _ rfl) (fun hHeld => ?_)
  try simp only [List.reduceReplicate]
  repeat refine takeLA [6] (h := ?_)
  refine lastA [] (h := ?_)
  refine wpAnyL_done (by kernel_rfl) ?_ _
  clear hHeld hu
  go_wp2
  go_ret
  obtain ⟨hck4, hMu, hFu, hsu, hKu, hf24⟩ := HM4.out
  have hb44 := hb4.size
  have hfu : Fr (fun i => i = r) w wu := zT (zT (zF HB.out.1) hf24 fun _ _ h => h) hFu fun _ _ h => h
  exact ⟨rfl, hfu, HC.out.1.fr hfu ⟨_, hMu, by rw [HP.out.2.2]; exact hKu⟩⟩
end
section
open Go.RowKit
section
variable {P : Program} (w : World)
theorem run_append_full (t ty e : TypeId) (i : TypeInfo) (z : Value) (k bytes : Nat) (ht : P.underlying t = some (.slice e)) (hi : P.info? e = some i) (hz : i.zero = some z)
 (hsize : i.size = k) (hby : i.bytes = bytes) (hzs : z.cells.size = k) (hk : 0 < k)
 (a0 : Option Addr) (S : Nat → Prop) (n : Nat) (xs : List Value) (hwin : WinC k e w (.slice a0 n n) S n xs) (x : Value) (m : Nat) (news : List Value) (hx : RdC k w x m news) (hm : 0 < m)
 (h63 : n + m ≤ maxLen) (hbytes : (n + m) * bytes ≤ 140737488355328) :
 ∃ v' w', (Builtin.append_ #[t, t] ty #[.slice a0 n n, x]).run P w = .ok v' w' ∧ WinC k e w' v' (fun i => i = w.heap.size) (n + m) (xs ++ news) ∧ Below w.heap.size w w' := by
 obtain ⟨hl, h1, a, c, rfl, hc⟩ := hx
 obtain ⟨b, off, rfl, hlt, hc⟩ := hc hm
 have hnews : ∀ j u, news[j]? = some u → w.cell? ((⟨b, off, none⟩ : Addr).add j) = some u := fun j u hu => by rw [addr_add]; exact hc j u hu
 subst hsize
 subst hby
 have hsmall : n + m ≤ 9223372036854775807 := by simp only [maxLen] at h63; omega
 have hlen : (xs ++ news).length = (n + m) * i.size := by rw [List.length_append, hwin.1, hl, Nat.add_mul]
 have grown : ∀ (old : Nat), old < n + m →
  WinC i.size e (w.drew.alloc (.cells (xs.toArray ++ news.toArray ++ Builtin.zeroCells z.cells (grownCap w (n + m) old e - (n + m))) e))
   (.slice (some ⟨w.heap.size, 0, none⟩) (n + m) (grownCap w (n + m) old e)) (fun i => i = w.heap.size) (n + m) (xs ++ news) ∧
  Below w.heap.size w (w.drew.alloc (.cells (xs.toArray ++ news.toArray ++ Builtin.zeroCells z.cells (grownCap w (n + m) old e - (n + m))) e)) := by
  intro old ho
  have hge := grownCap_ge w (n + m) old e
  have hcm : grownCap w (n + m) old e ≤ maxLen := grownCap_le_maxLen w (n + m) old e h63
  refine ⟨⟨hlen, .inr ⟨w.heap.size, 0, _, _, rfl, rfl, heap_alloc_new w.drew _, hge, hcm, ?_, ?_⟩⟩, (Below.refl _ _).drew.alloc (Nat.le_refl _) _⟩
  ·simp only [Array.size_append, List.size_toArray, size_zeroCells, hzs, hwin.1, hl, ← Nat.add_mul, Nat.zero_add]
   refine Nat.le_of_eq ?_
   congr 1
   omega
  ·simp only [Array.toList_append, List.append_assoc, List.drop_zero]
   rw [← List.append_assoc, ← hlen]
   exact List.take_left
 rcases hwin.2 with ⟨hv, rfl⟩ | ⟨g, off', cap, cur, hv, hS, hg, hnc, hcm, hcs, htake⟩
 ·have hx : xs = [] := List.eq_nil_of_length_eq_zero (by simpa using hwin.1)
  subst hx
  injection hv with h0 _ _
  subst h0
  have hr := run_append_nil (P := P) w t ty e i z ht hi hz ⟨b, off, none⟩ m c news hl hnews (by omega) (by omega) (by have hb := hbytes; simp only [Nat.zero_add] at hb; omega)
  have hgr := grown 0 (by omega)
  simp only [Nat.zero_add, List.nil_append, Array.empty_append] at hgr ⊢
  exact ⟨_, _, hr, hgr.1, hgr.2⟩
 ·injection hv with h0 _ h2
  subst h0; subst h2
  have holds : ∀ j u, xs[j]? = some u → w.cell? ((⟨g, off', none⟩ : Addr).add j) = some u := fun j u hu => by rw [addr_add]; exact winC_cells hwin j u hu
  have hr := run_append_grow (P := P) w t ty e i z ht hi hz ⟨g, off', none⟩ n n xs hwin.1 holds ⟨b, off, none⟩ m c news hl hnews (by omega) (by omega) (growslice_fits (by omega) hbytes)
  have hgr := grown n (by omega)
  exact ⟨_, _, hr, hgr.1, hgr.2⟩
theorem wpList_append_full {ops : Array Oper} {rest : List Oper} {o : Oper} {a : Act} {Q : Exit → Act → World → Prop} (hgd : o.guard = none) (s x : Operand) (t : TypeId)
 (ho : o.op = .call { callee := .builtin .append, args := #[s, x], argTypes := #[t, t] })
 (e : TypeId) (k bytes : Nat) (z : Value) (ht : P.underlying t = some (.slice e)) (hinfo : (P.info? e).map (fun i => (i.zero, i.size, i.bytes)) = some (some z, k, bytes)) (hzs : z.cells.size = k) (hk : 0 < k)
 (a0 : Option Addr) (S : Nat → Prop) (n : Nat) (xs : List Value) (hs : a.eval s = .slice a0 n n) (xv : Value) (hx : a.eval x = xv) (hwin : WinC k e w (.slice a0 n n) S n xs) (m : Nat) (news : List Value) (hrd : RdC k w xv m news) (hm : 0 < m)
 (h63 : n + m ≤ maxLen) (hbytes : (n + m) * bytes ≤ 140737488355328)
 (h : ∀ v' w', WinC k e w' v' (fun i => i = w.heap.size) (n + m) (xs ++ news) → Below w.heap.size w w' → wpList P ops Q rest (a.put o.dst v') w') : wpList P ops Q (o :: rest) a w :=
 wpList_plain hgd fun _ hK => by
  obtain ⟨i, hi, hzz⟩ := Option.map_eq_some_iff.1 hinfo
  simp only [Prod.mk.injEq] at hzz
  obtain ⟨v', w', hr, h2, h3⟩ := run_append_full (P := P) w t o.type e i z k bytes ht hi hzz.1 hzz.2.1 hzz.2.2 hzs hk a0 S n xs hwin xv m news hrd hm h63 hbytes
  unfold Oper.wp execOp
  simp only [ho, resolve, invoke, builtin, Sem.run_bind, Sem.run_pure, Result.andThen_ok, List.map_toArray, List.map_cons, List.map_nil, hs, hx, hr]
  exact hK _ _ (h v' w' h2 h3)
theorem wpList_append_zero {ops : Array Oper} {rest : List Oper} {o : Oper} {a : Act} {Q : Exit → Act → World → Prop} (hgd : o.guard = none) (s x : Operand) (t : TypeId)
 (ho : o.op = .call { callee := .builtin .append, args := #[s, x], argTypes := #[t, t] })
 (e : TypeId) (ht : P.underlying t = some (.slice e)) (i : TypeInfo) (hi : P.info? e = some i)
 (a0 a1 : Option Addr) (n c c1 : Nat) (hs : a.eval s = .slice a0 n c) (hx : a.eval x = .slice a1 0 c1) (hnc : n ≤ c)
 (h : wpList P ops Q rest (a.put o.dst (.slice a0 n c)) w) : wpList P ops Q (o :: rest) a w :=
 wpList_plain hgd fun _ hK => by
  have hfc : (Builtin.firstCells i.size 0 (.slice a1 0 c1)).run P w = .ok #[] w := by
   cases a1 <;> simp [Builtin.firstCells, loadCells, loadCellsFrom]
  have hr : (Builtin.append_ #[t, t] o.type #[.slice a0 n c, .slice a1 0 c1]).run P w = .ok (.slice a0 n c) w := by
   cases a0 <;> simp [Builtin.append_, run_underlying ht, sizeOf, typeInfo, hi, Builtin.lenOf, hnc, hfc, Result.andThen, storeCells]
  unfold Oper.wp execOp
  simp only [ho, resolve, invoke, builtin, Sem.run_bind, Sem.run_pure, Result.andThen_ok, List.map_toArray, List.map_cons, List.map_nil, hs, hx, hr]
  exact hK _ _ h
end
end
section
open Go.RowKit Go.Shelf
theorem LL.full {w W : World} {lo : Nat} {v : Value} {gs ps : List Row} (h : ∀ p ∈ gs, RowAt w lo p) (hp : ∀ p ∈ ps, RowAt w lo p) (hlo : lo ≤ w.heap.size) (hb : Below w.heap.size w W)
 (hw : WinC 1 31 W v (fun i => i = w.heap.size) (gs.length + ps.length) (gs.flatMap rowC ++ ps.flatMap rowC)) : LL W lo v (gs ++ ps) := by
 refine ⟨?_, fun p hq => ?_⟩
 ·refine (?_ : WinC _ _ _ _ _ _ _)
  rw [List.length_append, List.flatMap_append]
  exact zN hw fun i hi => by omega
 ·rcases List.mem_append.1 hq with hq | hq
  ·exact (h p hq).below hb
  ·exact (hp p hq).below hb
theorem info_row2 : ∃ i, Tryz.prog.info? 31 = some i := by
 obtain ⟨i, hi, _⟩ := Option.map_eq_some_iff.1 info_row
 exact ⟨i, hi⟩
theorem nil_len {gs : List Row} (h : nums gs = []) : gs = [] := by cases gs with | nil => rfl | cons => simp [nums] at h
theorem LL.away {w W : World} {lo : Nat} {v : Value} {gs : List Row} {S : Nat → Prop} (h : LL w lo v gs) (hf : Fr S w W) (hS : ∀ i, lo ≤ i → ¬ S i) : LL W lo v gs :=
 ⟨zM h.1 hf hS, fun p hp => by
  obtain ⟨h1, h2, h3⟩ := h.2 p hp
  refine ⟨h1, rd_move h2 hf fun i hi => hS i (h3 i hi).1, fun i hi => ?_⟩
  obtain ⟨h4, cur, q, h5⟩ := h3 i hi
  exact ⟨h4, cur, q, (hf.block i (Array.getElem?_eq_some_iff.1 h5).1 (hS i h4)).trans h5⟩⟩
theorem LL.ob {w : World} {lo : Nat} {v : Value} {gs : List Row} (h : LL w lo v gs) : ∀ i, some i = v.ownBlock → lo ≤ i ∧ i < w.heap.size := winC_ob h.1
theorem LL.fr_below {w W : World} {lo B : Nat} {v : Value} {gs : List Row} (h : LL w lo v gs) (hf : Fr (fun i => some i = v.ownBlock) w W) (hB : B ≤ lo) (hw : B ≤ w.heap.size) : Below B w W := zO hf hw fun i hi => by have := (h.ob i hi).1; omega
set_option maxHeartbeats 16000000 in
theorem again_any (l : List Ev) (al : Option Addr) (cl : Nat) (fa : Form) (op n o1 n1 : Int) (t t1 : Test) (k1 : Pats) (v : Value) (w : World)
 (hr : Rd Ev.cells 5 w (.slice al l.length cl) l) (hcl : l.length ≤ cl) (hat : ∀ e ∈ l, 0 ≤ e.at_ ∧ e.at_ ≤ 200) (hl60 : l.length ≤ 60)
 (hk : RdK w (.cons o1 t1 n1 k1 .nil) v)
 (hA : ∀ (W : World) (v1 : Value), Below w.heap.size w W → RdK W k1 v1 → Calls Tryz.prog 173 #[.slice al l.length cl, .agg (patA ⟨o1, t1, n1, k1⟩ v1)] W (OutC l W (allP l fa))) :
 Calls Tryz.prog 223 #[.slice al l.length cl, .agg (patA ⟨op, t, n, .cons o1 t1 n1 k1 .nil⟩ v)] w (Out w (rawP l (.many n fa))) := by
 obtain ⟨a, c, rfl, hc1, hc2, h3⟩ := hk
 obtain ⟨b, o, rfl, hbw, ⟨⟨d0, d1, d2, d3, d4⟩, ⟨a1, c1, d5, g1, g2, g3⟩, _⟩⟩ := h3 (by simp [Pats.len])
 have hk1 : RdK w k1 (.slice a1 k1.len c1) := ⟨a1, c1, rfl, g1, g2, g3⟩
 obtain ⟨ts, tl, th⟩ := t
 obtain ⟨t1s, t1l, t1h⟩ := t1
 dsimp only [patA, Pats.len] at *
 have HF := zH (zA hr (zA hcl (zA hat hl60)))
 have HK := zH hk1
 have HA := zH hA
 clear hr hcl hat hl60 hk1 hA hc1 hc2 h3 g1 g2 g3 hbw
 have al := fun o => (Below.refl w.heap.size w).alloc (Nat.le_refl _) o
 have e0 := fun o => zB (al o) d0
 have e1 := fun o => zB (al o) d1
 have e2 := fun o => zB (al o) d2
 have e3 := fun o => zB (al o) d3
 have e4 := fun o => zB (al o) d4
 have e5 := fun o => zB (al o) d5
 clear d0 d1 d2 d3 d4 d5 al
 go_enter Tryz.func223, Tryz.ntmps223
 go_wp2_with fail
 refine zX (G := fun W => Calls _ _ _ W _) w _ _ fun w2 hb hz hx => ?_
 have b4 : w2.cell? ⟨w.heap.size, 4, none⟩ = some (.int .i64 n) := zC hx 4
 have HB0 := zH (zA hb (zA hz b4))
 refine (HA.out w2 (.slice a1 k1.len c1) hb (HK.out.below hb)).mono ?_
 clear e0 e1 e2 e3 e4 e5 hb hz hx b4
 rintro e w3 (⟨ax, g, hA1, rfl, hL, hn, hi, ho, hb3⟩ | ⟨hA1, rfl, hb3⟩)
 rotate_left
 ·exact ⟨rfl, .inr ⟨by rw [rawP, hA1]; rfl, rfl, HB0.out.1.trans (hb3.mono HB0.out.1.size)⟩⟩
 have HO := zH (zA hA1 (zA hL (zA hn (zA hi (zA ho hb3)))))
 have hb4 := zB hb3 HB0.out.2.2
 clear hA1 hL hn hi ho hb3
 go_wp2
 go_loopg [6, 7] (l.length + 1) (fun q vo vl W => ∃ (k : Nat) (ao : Option Addr) (gso : List Row) (av : Option Addr) (cv : Nat) (gl : List Row), k + q = l.length + 1 ∧ vo = .slice ao gso.length gso.length ∧ vl = .slice av gl.length cv ∧ LL W w2.heap.size (.slice ao gso.length gso.length) gso ∧ LL W w2.heap.size (.slice av gl.length cv) gl ∧ nums gl = itJ l n (nums g) k ∧ againP l n (nums g) (l.length + 1 - k) (nums gso) (itJ l n (nums g) k) = againP l n (nums g) (l.length + 1) (nums g) (nums g) ∧ (gl ≠ [] → LL W w2.heap.size (.slice ax g.length g.length) g) ∧ gso.length ≤ 200 ∧ gl.length ≤ 200 ∧ Below w2.heap.size w2 W)
 case atStart => exact ⟨0, ax, g, ax, g.length, g, by omega, rfl, rfl, HO.out.2.1, HO.out.2.1, rfl, rfl, fun _ => HO.out.2.1, HO.out.2.2.1, HO.out.2.2.1, HO.out.2.2.2.2.2⟩
 case round =>
  obtain ⟨k, ao, gso, av, cv, gl, hq, rfl, rfl, hLo, hLl, hnl, hag, how, ho200, hl200, hB⟩ := hrel
  by_cases hl0 : gl = []
  ·subst hl0
   have HX := zH (zA hLo (zA hnl (zA hag hB)))
   clear hLo hLl hnl hag how hB
   go_wp2
   go_ret
   obtain ⟨hLo, hnl, hag, hB⟩ := HX.out
   refine .inl ⟨_, gso, ?_, rfl, hLo.mono HB0.out.1.size, by omega, HB0.out.1.trans (hB.mono HB0.out.1.size)⟩
   rw [← hnl, show nums ([] : List Row) = [] from rfl, again_none] at hag
   rw [rawP, HO.out.1]
   exact hag.symm
  have hlp : 0 < gl.length := by cases gl with | nil => exact absurd rfl hl0 | cons => simp
  have hLw := how hl0
  have n1 : (0 : Int) < (gl.length : Int) := by omega
  obtain ⟨hr, hcl, hat, hl60⟩ := HF.out
  have hBw := HB0.out.1.trans (hB.mono HB0.out.1.size)
  have hJI := itJ_inc (n := n) HO.out.2.2.2.1 k
  have HJ := zH (joined_any l al cl n none none _ _ _ _ gl g wr (hr.below hBw) hcl hat hl60 rfl hLl hLw (fun x hx => (hJI x (by rw [← hnl]; exact hx)).1) HO.out.2.2.2.1 (by omega) (by have := HO.out.2.2.1; omega))
  have hb4r := zB hB HB0.out.2.2
  have hne : itJ l n (nums g) k ≠ [] := by rw [← hnl]; intro h; exact hl0 (nil_len h)
  have HS := zH (zA (itJ_end HO.out.2.2.2.1 hne) ((again_step (out := nums gso) HO.out.2.2.2.1 hne).symm.trans hag))
  have HX := zH (zA hLo (zA hLl (zA hnl (zA hLw hB))))
  clear hLo hLl hnl hag how hB hl0 hLw hr hcl hat hl60 hBw hJI hne hb4
  go_wp2_with fail
  refine HJ.out.mono ?_
  rintro e w5 ⟨v5, g5, rfl, hn5, hL5, hl5, hb5⟩
  obtain ⟨a5, c5, rfl, _, _⟩ := hL5.form
  have h5m : g5.length ≤ 40000 := by have := Nat.mul_le_mul hl200 HO.out.2.2.1; omega
  have HU := zH (unique_any _ _ w5 g5 hL5 (by omega))
  have H5 := zH (zA hn5 (zA hL5 (zA hl5 hb5)))
  clear hn5 hL5 hl5 hb5 hb4r
  go_wp2_with fail
  refine HU.out.mono ?_
  rintro e w6 ⟨v6, g6, rfl, hn6, hL6, ⟨a6, rfl⟩, hm6, hf6, ho6⟩
  have h56 : Below wr.heap.size w5 w6 := H5.out.2.1.fr_below hf6 (Nat.le_refl _) H5.out.2.2.2.size
  have hb6 : Below wr.heap.size wr w6 := H5.out.2.2.2.trans h56
  have hn6' : nums g6 = itJ l n (nums g) (k + 1) := by rw [hn6, H5.out.1, HX.out.2.2.1]; rfl
  have h6l : g6.length ≤ 40000 := by
   rw [← nums_len g6, hn6]
   refine Nat.le_trans (sorted_length ordL_laws (setO_sorted ordL_laws _) fun x hx => (mem_setO ordL_laws _ _).1 hx) ?_
   rw [nums_len]; exact h5m
  have hLo6 := HX.out.1.below hb6
  have hLw6 := HX.out.2.2.2.1.below hb6
  have hB6 := HX.out.2.2.2.2.trans (hb6.mono HX.out.2.2.2.2.size)
  have hwr2 := HX.out.2.2.2.2.size
  by_cases h60 : g6 = []
  ·subst h60
   have HU2 := zH (unique_any _ _ w6 gso hLo6 (by omega))
   have H6 := zH (zA hn6' (zA hL6 (zA hLo6 hB6)))
   have hob : ∀ i, some i = (Value.slice ao gso.length gso.length).ownBlock → i < wr.heap.size := fun i hi => (HX.out.1.ob i hi).2
   have HOB := zH hob
   clear hn6 hn6' hL6 hm6 hf6 ho6 h56 hb6 hLo6 hLw6 hB6 h6l hob
   go_wp2_with (first | (at_builtin; obtain ⟨ir, hir⟩ := info_row2; refine wpList_append_zero _ (by rfl) _ _ _ (by rfl) 31 Tryz.underlying44 ir hir _ _ _ _ _ (by rfl) (by rfl) (Nat.le_refl _) ?_) | fail)
   refine HU2.out.mono ?_
   rintro e w7 ⟨v7, g7, rfl, hn7, hL7, ⟨a7, rfl⟩, hm7, hf7, ho7⟩
   have hLz := H6.out.2.1.away hf7 fun i hi he => by have := HOB.out i he; omega
   have hb7 := H6.out.2.2.1.fr_below hf7 (Nat.le_refl _) H6.out.2.2.2.size
   have h7l : g7.length ≤ 200 := by
    rw [← nums_len g7, hn7]
    refine Nat.le_trans (sorted_length ordL_laws (setO_sorted ordL_laws _) fun x hx => (mem_setO ordL_laws _ _).1 hx) ?_
    rw [nums_len]; exact ho200
   have H7 := zH (zA hn7 (zA hL7 (zA hLz hb7)))
   have n7 : (g7.length : Int) ≤ 200 := by omega
   clear hn7 hL7 hm7 hf7 ho7 hLz hb7
   go_wp2_with (go_at_call 213; refine (upto_few _ _ n7 _).mono ?_; rintro e w8 ⟨rfl, rfl⟩)
   go_roundg (gk - 1)
   case measure => have := HS.out.1; omega
   case rel =>
    obtain ⟨hn7, hL7, hLz, hb7⟩ := H7.out
    obtain ⟨hn6, hL6, hLo6, hB6⟩ := H6.out
    have hk := HS.out.1
    refine ⟨k + 1, a7, g7, a6, 0, [], by omega, rfl, rfl, hL7, hLz.mono hwr2, hn6, ?_, fun h => absurd rfl h, h7l, by simp, hB6.trans hb7⟩
    have h2 := HS.out.2
    rw [← hn6, show nums ([] : List Row) = [] from rfl, List.append_nil, ← hn7] at h2
    rw [lim, if_pos (by rw [nums_len]; exact h7l)] at h2
    rw [← hn6]
    exact h2
  ·have h6p : 0 < g6.length := by cases g6 with | nil => exact absurd rfl h60 | cons => simp
   have H6 := zH (zA hn6' (zA hL6 (zA hLo6 (zA hB6 hLw6))))
   clear hn6 hn6' hL6 hm6 hf6 ho6 h56 hb6 hLo6 hLw6 hB6
   go_wp2_with (first | (at_builtin; refine wpList_append_full w6 (by rfl) _ _ _ (by rfl) 31 1 24 _ Tryz.underlying44 info_row rfl (by decide) _ _ gso.length _ (by rfl) _ (by rfl) H6.out.2.2.1.1 g6.length _ H6.out.2.1.rdC h6p (by unfold maxLen; omega) (by omega) ?_; intro v7 w7 hwin7 hb7; obtain ⟨a7, c7, rfl, hc7, hm7⟩ := zS hwin7) | fail)
   have hL7 := LL.full H6.out.2.2.1.2 (fun p hp => (H6.out.2.1.2 p hp).mono hwr2) H6.out.2.2.2.1.size hb7 hwin7
   have hob7 := winC_ob hwin7
   have hs7 := hb7.size
   have H7 := zH (zA hob7 (zA hs7 (zA hb7 hL7)))
   have HU2 := zH (unique_any _ _ w7 _ hL7 (by rw [List.length_append]; omega))
   clear hwin7 hb7 hL7 hob7 hs7
   go_wp2_with fail
   refine HU2.out.mono ?_
   rintro e w8 ⟨v8, g8, rfl, hn8, hL8, ⟨a8, rfl⟩, hm8, hf8, ho8⟩
   have hb68 : Below w6.heap.size w6 w8 := H7.out.2.2.1.trans (zO hf8 H7.out.2.1 fun i hi => by have := (H7.out.1 i hi).1; omega)
   have hn8' : nums g8 = setO ordL (nums gso ++ itJ l n (nums g) (k + 1)) := by rw [hn8, ← H6.out.1]; simp [nums]
   have h68 : g6.length ≤ g8.length := by
    rw [← nums_len g6, ← nums_len g8, H6.out.1, hn8']
    refine sorted_length ordL_laws (by rw [itJ]; exact setO_sorted ordL_laws _) fun x hx => (mem_setO ordL_laws _ _).2 (List.mem_append_right _ hx)
   have H8 := zH (zA hn8' (zA hL8 (zA hb68 h68)))
   clear hn8 hn8' hL8 hm8 hf8 ho8 hb68 h68
   by_cases h8l : g8.length ≤ 200
   ·have n8 : (g8.length : Int) ≤ 200 := by omega
    go_wp2_with (go_at_call 213; refine (upto_few _ _ n8 _).mono ?_; rintro e w9 ⟨rfl, rfl⟩)
    go_roundg (gk - 1)
    case measure => have := HS.out.1; omega
    case rel =>
     obtain ⟨hn8, hL8, hb68, h68⟩ := H8.out
     obtain ⟨hn6, hL6, hLo6, hB6, hLw6⟩ := H6.out
     have hk := HS.out.1
     refine ⟨k + 1, a8, g8, a6, g6.length, g6, by omega, rfl, rfl, hL8, (hL6.below hb68).mono hwr2, hn6, ?_, fun _ => hLw6.below hb68, h8l, by omega, hB6.trans (hb68.mono hB6.size)⟩
     have h2 := HS.out.2
     rw [← hn8, lim, if_pos (by rw [nums_len]; exact h8l)] at h2
     exact h2
   ·have n8 : (200 : Int) < (g8.length : Int) := by omega
    go_wp2_with fail
    refine (upto_many _ _ n8 _).mono ?_
    rintro e w9 ⟨rfl, rfl⟩
    obtain ⟨hn8, hL8, hb68, h68⟩ := H8.out
    obtain ⟨hn6, hL6, hLo6, hB6, hLw6⟩ := H6.out
    refine ⟨rfl, .inr ⟨?_, rfl, HB0.out.1.trans ((hB6.trans (hb68.mono hB6.size)).mono HB0.out.1.size)⟩⟩
    have h2 := HS.out.2
    rw [← hn8, lim, if_neg (by rw [nums_len]; exact h8l)] at h2
    rw [rawP, HO.out.1]
    exact h2.symm
end
section
open Go.RowKit Go.Shelf
set_option maxHeartbeats 8000000 in
theorem then_any (l : List Ev) (al : Option Addr) (cl : Nat) (fa fb : Form) (op n o1 n1 o2 n2 : Int) (t t1 t2 tc : Test) (k1 k2 : Pats) (v : Value) (w : World)
 (hr : Rd Ev.cells 5 w (.slice al l.length cl) l) (hcl : l.length ≤ cl) (hat : ∀ e ∈ l, 0 ≤ e.at_ ∧ e.at_ ≤ 200) (hl60 : l.length ≤ 60)
 (hk : RdK w (.cons o1 t1 n1 k1 (.cons o2 t2 n2 k2 .nil)) v)
 (hA : ∀ (W : World) (v1 : Value), Below w.heap.size w W → RdK W k1 v1 → Calls Tryz.prog 173 #[.slice al l.length cl, .agg (patA ⟨o1, t1, n1, k1⟩ v1)] W (OutC l W (allP l fa)))
 (hB : ∀ (W : World) (v1 : Value), Below w.heap.size w W → RdK W k2 v1 → Calls Tryz.prog 173 #[.slice al l.length cl, .agg (patA ⟨o2, t2, n2, k2⟩ v1)] W (OutC l W (allP l fb))) :
 Calls Tryz.prog 221 #[.slice al l.length cl, .agg (patA ⟨op, t, n, .cons o1 t1 n1 k1 (.cons o2 t2 n2 k2 .nil)⟩ v)] w (Out w (rawP l (.thn n fa fb))) := by
 obtain ⟨b, o, c, a1, c1, a2, c2, rfl, hbw, hc1, hc2, _, ⟨⟨d0, d1, d2, d3, d4, d5⟩, hk1⟩, ⟨⟨e0, e1, e2, e3, e4, e5⟩, hk2⟩⟩ := two_kids hk
 obtain ⟨ts, tl, th⟩ := t
 obtain ⟨t1s, t1l, t1h⟩ := t1
 obtain ⟨t2s, t2l, t2h⟩ := t2
 obtain ⟨tcs, tcl, tch⟩ := tc
 dsimp only [patA, Pats.len] at *
 have HF := zH (zA hr (zA hcl (zA hat hl60)))
 have HK := zH (zA hk1 hk2)
 have HA := zH hA
 have HB := zH hB
 have EN := zH (enters_of Tryz.func173 (by kernel_rfl) rfl)
 have HBW := zH hbw
 clear hr hcl hat hl60 hk hk1 hk2 hA hB hbw
 go_enter Tryz.func221, Tryz.ntmps221
 go_wp2_with fail
 refine zX (G := fun W => Code.wp _ _ _ _ W) w _ _ fun w2 hb hz hx => ?_
 have hS : ∀ W, Below w2.heap.size w2 W → W.cell? ⟨w.heap.size, 4, none⟩ = some (.int .i64 n) ∧ W.cell? ⟨w.heap.size, 5, none⟩ = some (.slice (some ⟨b, o, none⟩) 2 c) ∧ W.cell? ⟨b, o, none⟩ = some (.int .i64 o1) ∧ W.cell? ⟨b, o + 1, none⟩ = some (.int .i64 t1s) ∧ W.cell? ⟨b, o + 2, none⟩ = some (.int .i64 t1l) ∧ W.cell? ⟨b, o + 3, none⟩ = some (.int .i64 t1h) ∧ W.cell? ⟨b, o + 4, none⟩ = some (.int .i64 n1) ∧ W.cell? ⟨b, o + 5, none⟩ = some (.slice a1 k1.len c1) ∧ W.cell? ⟨b, o + 6, none⟩ = some (.int .i64 o2) ∧ W.cell? ⟨b, o + 6 + 1, none⟩ = some (.int .i64 t2s) ∧ W.cell? ⟨b, o + 6 + 2, none⟩ = some (.int .i64 t2l) ∧ W.cell? ⟨b, o + 6 + 3, none⟩ = some (.int .i64 t2h) ∧ W.cell? ⟨b, o + 6 + 4, none⟩ = some (.int .i64 n2) ∧ W.cell? ⟨b, o + 6 + 5, none⟩ = some (.slice a2 k2.len c2) := by
  intro W hW
  have hbW := hb.trans (hW.mono hb.size)
  exact ⟨zB hW (zC hx 4), zB hW (zC hx 5), zB hbW d0, zB hbW d1, zB hbW d2, zB hbW d3, zB hbW d4, zB hbW d5, zB hbW e0, zB hbW e1, zB hbW e2, zB hbW e3, zB hbW e4, zB hbW e5⟩
 have HS := zH hS
 have HW := zH ((Below.refl w2.heap.size w2).drew)
 have HB0 := zH (zA hb hz)
 clear hS hx hb hz d0 d1 d2 d3 d4 d5 e0 e1 e2 e3 e4 e5
 refine wp_region_held_drew (S := fun W => W.cell? ⟨w.heap.size, 4, none⟩ = some (.int .i64 n) ∧ W.cell? ⟨w.heap.size, 5, none⟩ = some (.slice (some ⟨b, o, none⟩) 2 c) ∧ W.cell? ⟨b, o, none⟩ = some (.int .i64 o1) ∧ W.cell? ⟨b, o + 1, none⟩ = some (.int .i64 t1s) ∧ W.cell? ⟨b, o + 2, none⟩ = some (.int .i64 t1l) ∧ W.cell? ⟨b, o + 3, none⟩ = some (.int .i64 t1h) ∧ W.cell? ⟨b, o + 4, none⟩ = some (.int .i64 n1) ∧ W.cell? ⟨b, o + 5, none⟩ = some (.slice a1 k1.len c1) ∧ W.cell? ⟨b, o + 6, none⟩ = some (.int .i64 o2) ∧ W.cell? ⟨b, o + 6 + 1, none⟩ = some (.int .i64 t2s) ∧ W.cell? ⟨b, o + 6 + 2, none⟩ = some (.int .i64 t2l) ∧ W.cell? ⟨b, o + 6 + 3, none⟩ = some (.int .i64 t2h) ∧ W.cell? ⟨b, o + 6 + 4, none⟩ = some (.int .i64 n2) ∧ W.cell? ⟨b, o + 6 + 5, none⟩ = some (.slice a2 k2.len c2)) (by kernel_rfl) (HS.out _ HW.out) (fun hHeld => ?_)
 refine takeI 0 (h := ?_)
 refine takeI 1 (h := ?_)
 refine takeI 2 (h := ?_)
 refine takeI 3 (h := ?_)
 refine takeI 4 (h := ?_)
 refine takeI 5 (h := ?_)
 refine takeI 7 (h := ?_)
 refine takeI 8 (h := ?_)
 refine takeI 9 (h := ?_)
 refine takeI 10 (h := ?_)
 refine takeI 11 (h := ?_)
 refine takeI 13 (h := ?_)
 refine takeI 14 (h := ?_)
 have ENJ := enters_of Tryz.func262 (by kernel_rfl) rfl
 refine wpAnyH_ready (rs := [6]) (by kernel_rfl) (by simp) ?_
 refine AllReadyH.cons rfl (fun K hK => ?_) ?_
 ·set_option maxRecDepth 10000 in
  refine step_callp (by rfl) 173 _ _ (by rfl) EN.out _ (by rfl) (HA.out _ (.slice a1 k1.len c1) (HB0.out.1.trans (HW.out.mono HB0.out.1.size)) (HK.out.1.below (HB0.out.1.trans (HW.out.mono HB0.out.1.size)))) ?_
  rintro e w3 (⟨axA, gA, hA, rfl, hLA, hnA, hiA, hoA, hbA⟩ | ⟨hA, rfl, hbA⟩)
  ·refine .inl ⟨_, rfl, ?_⟩
   have HWo := HW
   clear HW
   have HW := zH (HWo.out.trans (hbA.mono HWo.out.size))
   have HXA := zH (zA hA (zA (hLA.mono HWo.out.size) (zA hnA (zA hiA hbA))))
   clear hA hLA hnA hiA hoA hbA HWo
   refine hK.out _ _ (HS.out _ HW.out) (fun hHeld => ?_)
   clear hK K
   try simp only [Act.put, List.setIfInBounds_toArray, List.set_cons_zero, List.set_cons_succ]
   refine wpAnyH_ready (rs := [12]) (by kernel_rfl) (by simp) ?_
   refine AllReadyH.cons rfl (fun K hK => ?_) ?_
   ·set_option maxRecDepth 10000 in
    refine step_callp (by rfl) 173 _ _ (by rfl) EN.out _ (by rfl) (HB.out _ (.slice a2 k2.len c2) (HB0.out.1.trans (HW.out.mono HB0.out.1.size)) (HK.out.2.below (HB0.out.1.trans (HW.out.mono HB0.out.1.size)))) ?_
    rintro e w4 (⟨axB, gB, hB, rfl, hLB, hnB, hiB, hoB, hbB⟩ | ⟨hB, rfl, hbB⟩)
    ·refine .inl ⟨_, rfl, ?_⟩
     have HWo := HW
     clear HW
     have HW := zH (HWo.out.trans (hbB.mono HWo.out.size))
     have HXB := zH (zA hB (zA (hLB.mono HWo.out.size) (zA hnB (zA hiB hbB))))
     clear hB hLB hnB hiB hoB hbB HWo
     refine hK.out _ _ (HS.out _ HW.out) (fun hHeld => ?_)
     clear hK K
     try simp only [Act.put, List.setIfInBounds_toArray, List.set_cons_zero, List.set_cons_succ]
     refine wpAnyH_ready (rs := [15]) (by kernel_rfl) (by simp) ?_
     refine AllReadyH.cons rfl (fun K hK => ?_) ?_
     ·set_option maxRecDepth 10000 in
      refine step_callp (by rfl) 262 _ _ (by rfl) ENJ _ (by rfl) (joined_any l al cl n none none _ _ _ _ gA gB _ (HF.out.1.below (HB0.out.1.trans (HW.out.mono HB0.out.1.size))) HF.out.2.1 HF.out.2.2.1 HF.out.2.2.2 (rfl) (HXA.out.2.1.below HXB.out.2.2.2.2) HXB.out.2.1 HXA.out.2.2.2.1 HXB.out.2.2.2.1 (by have := HXA.out.2.2.1; omega) (by have := HXB.out.2.2.1; omega)) ?_
      rintro e w5 ⟨v5, g5, rfl, hn5, hL5, hl5, hb5⟩
      refine .inl ⟨_, rfl, ?_⟩
      have HR5 := zH (zA hn5 (zA hL5 (zA hl5 hb5)))
      have hHW := HW.out.trans (hb5.mono HW.out.size)
      refine hK.out _ _ (HS.out _ hHW) (fun hHeld => ?_)
      clear hK K hn5 hL5 hl5 hb5 hHW
      try simp only [Act.put, List.setIfInBounds_toArray, List.set_cons_zero, List.set_cons_succ]
      refine takeI 16 (h := ?_)
      refine wpAnyH_done (by kernel_rfl) ?_ _
      go_wp2
      go_ret
      obtain ⟨hn5, hL5, hl5, hb5⟩ := HR5.out
      have hsz : w.heap.size ≤ w4.heap.size := Nat.le_trans HB0.out.1.size HW.out.size
      refine .inl ⟨_, g5, ?_, rfl, hL5.mono hsz, ?_, HB0.out.1.trans ((HW.out.trans (hb5.mono HW.out.size)).mono HB0.out.1.size)⟩
      ·rw [rawP, HXA.out.1, HXB.out.1, hn5]; rfl
      ·have h1 := HXA.out.2.2.1
       have h2 := HXB.out.2.2.1
       have := Nat.mul_le_mul h1 h2
       omega
     exact AllReadyH.nil
    ·refine .inr ⟨_, rfl, ?_⟩
     exact ⟨rfl, .inr ⟨(by rw [rawP, HXA.out.1, hB]; rfl), rfl, HB0.out.1.trans ((HW.out.trans (hbB.mono HW.out.size)).mono HB0.out.1.size)⟩⟩
   exact AllReadyH.nil
  ·refine .inr ⟨_, rfl, ?_⟩
   exact ⟨rfl, .inr ⟨(by rw [rawP, hA]; rfl), rfl, HB0.out.1.trans ((HW.out.trans (hbA.mono HW.out.size)).mono HB0.out.1.size)⟩⟩
 exact AllReadyH.nil
end
end Go.Proofs.YtgiploddoffmjaaGreat
