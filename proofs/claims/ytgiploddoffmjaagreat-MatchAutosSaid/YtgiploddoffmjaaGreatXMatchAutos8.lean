/- My texts, joined: W63. -/
import Derived.Below
import Derived.BigQuiet
import Derived.Deep.AppendLies
import Derived.Deep.DeepCutAuto
import Derived.Deep.QuietTactic
import Derived.Deep.RegionHeld
import Derived.Deep.RegionHeld3
import Derived.Deep.RegionLaw
import Derived.Defers
import Derived.Ground.Names2Prog
import Derived.Ground.Names8Prog
import Derived.Ground.SlsfProg
import Derived.Handy
import Derived.KernelRfl
import Derived.Laws.AppendOwn
import Derived.Laws.AppendOwnNone
import Derived.Laws.CopyRow
import Derived.Laws.Pointers
import Derived.Laws.StructEq
import Derived.Lib.Hide
import Derived.Lib.Overlaps
import Derived.LoopIn
import Derived.LoopN
import Derived.LoopNIn
import Derived.LoopTactic
import Derived.MapKept
import Derived.Maps.AppendAt
import Derived.Maps.OwnOps
import Derived.Maps.RangeRun
import Derived.Maps.RangeWalk
import Derived.Outline
import Derived.OwnWalk
import Derived.OwnWalkIn
import Derived.RangeFuncBound
import Derived.RangeFuncCalls
import Derived.RangeFuncLeaves
import Derived.RangeFuncNested
import Derived.Recover
import Derived.Shelf.Abstract
import Derived.Shelf.RegionOpen
import Derived.Shelf.SlGeneric
import Derived.Shelf.SlLaysF0
import Derived.Shelf.SlSortCmp.HeapSort1
import Derived.Shelf.SlSortCmp.Insertion
import Derived.Shelf.SlSortCmp.Insertion1
import Derived.Shelf.SlSortCmp.Median1
import Derived.Shelf.SlSortCmp.NoneTotal
import Derived.Shelf.SlSortCmp.PartialInsertion1
import Derived.Shelf.SlSortCmp.Partition1
import Derived.Shelf.SlSortCmp.PartitionEqual1
import Derived.Shelf.SlSortCmp.Pdq1
import Derived.Shelf.SlSortCmp.Pivot1
import Derived.Shelf.SlSortCmp.ReverseRange1
import Derived.Shelf.SlSortCmp.SiftDown1
import Derived.Shelf.SlSortCmp.Whole1
import Derived.Shelf.SlSortCmp.WholeK
import Derived.Shelf.Slices.In.SortNone
import Derived.Shelf.Small.Bits
import Derived.Shelf.Sort.Plain
import Derived.Shelf.Spec.SlicesGrow
import Derived.TacticsInMore
import Derived.Test.YtgiploddoffmjaaGreatProg
import Derived.WalkKit
import Derived.WalkLawsBesides
import Derived.WalkSpells
import Derived.Test.YtgiploddoffmjaaGreatM0
import Derived.Test.YtgiploddoffmjaaGreatM1
import Derived.Test.YtgiploddoffmjaaGreatM2
import Derived.Test.YtgiploddoffmjaaGreatM3
import Derived.Test.YtgiploddoffmjaaGreatM4
import Derived.Test.YtgiploddoffmjaaGreatM5
import Derived.Test.YtgiploddoffmjaaGreatM6
import Derived.Test.YtgiploddoffmjaaGreatM8
import Derived.Test.YtgiploddoffmjaaGreatM9
import Derived.Test.YtgiploddoffmjaaGreatM10
import Derived.Test.YtgiploddoffmjaaGreatM11
import Derived.Test.YtgiploddoffmjaaGreatM12
import Derived.Test.YtgiploddoffmjaaGreatM13
import Derived.Test.YtgiploddoffmjaaGreatM18
import Derived.Test.YtgiploddoffmjaaGreatM19
import Derived.Test.YtgiploddoffmjaaGreatM20
import Derived.Test.YtgiploddoffmjaaGreatM21
import Derived.Test.YtgiploddoffmjaaGreatM22
import Derived.Test.YtgiploddoffmjaaGreatXMatchAutos1
import Derived.Test.YtgiploddoffmjaaGreatXMatchAutos2
import Derived.Test.YtgiploddoffmjaaGreatXMatchAutos3
import Derived.Test.YtgiploddoffmjaaGreatXMatchAutos4
import Derived.Test.YtgiploddoffmjaaGreatXMatchAutos5
import Derived.Test.YtgiploddoffmjaaGreatXMatchAutos6
set_option linter.unusedVariables false
set_option linter.unusedSimpArgs false
set_option linter.unusedSectionVars false
set_option maxRecDepth 10000
namespace Go.Proofs.YtgiploddoffmjaaGreat
section
open Go.RowKit Go.Shelf
set_option maxRecDepth 1000000 in
set_option maxHeartbeats 64000000 in
theorem refAuto_or (lo : Nat) (fa fb : Form) (n o1 n1 o2 n2 : Int) (t t1 t2 tc : Test) (k1 k2 : Pats) (hA : KidR lo fa o1 t1 n1 k1) (hB : KidR lo fb o2 t2 n2 k2) : KidR lo (.or fa fb) 3 t 0 (.cons o1 t1 n1 k1 (.cons o2 t2 n2 k2 .nil)) := by
 intro w u k hk hlo h0 hk12 hfs hes
 obtain ⟨b, o, c, a1, c1, a2, c2, rfl, hbw, hc1, hc2, _, ⟨⟨d0, d1, d2, d3, d4, d5⟩, hk1⟩, ⟨⟨e0, e1, e2, e3, e4, e5⟩, hk2⟩⟩ := two_kids hk
 have HLK := zH (show ∀ W, Below w.heap.size w W → LackR W 3 (.slice (some ⟨b, o, none⟩) 2 c) none from fun W hW => .inl ⟨rfl, rfl⟩)
 obtain ⟨ts, tlo, thi⟩ := t
 obtain ⟨t1s, t1l, t1h⟩ := t1
 obtain ⟨t2s, t2l, t2h⟩ := t2
 obtain ⟨x, hx⟩ : ∃ x, x = autoR fa k := ⟨_, rfl⟩
 have hnA : (makeP fa k).tests.length = x.tests.length := by rw [hx, autoR_tests]
 obtain ⟨y, hy⟩ : ∃ y, y = autoR fb (k + x.tests.length) := ⟨_, rfl⟩
 have hnB : (makeP fb (k + x.tests.length)).tests.length = y.tests.length := by rw [hy, autoR_tests]
 obtain ⟨au, hau⟩ : ∃ au, au = autoR (.or fa fb) k := ⟨_, rfl⟩
 rw [← hau]
 have hau2 : au = ⟨x.tests ++ y.tests, x.first ++ y.first, x.last ++ y.last, y.follow.foldl (putO edgeOrd) x.follow⟩ := by rw [hau, hy, hx]; rfl
 simp only [makeP, fsize, List.length_append, hnA, hnB] at hk12 hfs hes
 have hxl : x.follow.length ≤ 1728 := by rw [hx]; exact autoR_len k (by omega)
 have hyl : y.follow.length ≤ 1728 := by rw [hy]; exact autoR_len _ (by omega)
 have hxm : ∀ e ∈ (makeP fa k).follow, edgeSm e := fun e he => hes e (by simp only [List.mem_append]; simp [he])
 have hym : ∀ e ∈ (makeP fb (k + x.tests.length)).follow, edgeSm e := fun e he => hes e (by simp only [List.mem_append]; simp [he])
 have hxm2 : ∀ e ∈ x.follow, edgeSm e := fun e he => hxm e (by rw [hx] at he; exact autoR_mem he)
 have hym2 : ∀ e ∈ y.follow, edgeSm e := fun e he => hym e (by rw [hy] at he; exact autoR_mem he)
 have hxe := makeP_ends fa k
 have hye := makeP_ends fb (k + x.tests.length)
 rw [← autoR_first, ← autoR_last, ← hx, hnA] at hxe
 rw [← autoR_first, ← autoR_last, ← hy, hnB] at hye
 dsimp only [patA, Pats.len] at *
 have HA := zH hA
 have HB := zH hB
 have HK := zH (zA hk1 hk2)
 have HM := zH (zA hxm (zA hym (zA hxm2 hym2)))
 have HAU := zH hau2
 have HXY := zH (zA hx (zA hy (zA hnA hnB)))
 have HN := zH (zA hk12 (zA hfs (zA hxl (zA hyl (zA hxe hye)))))
 have HD := zH (zA d0 (zA d1 (zA d2 (zA d3 (zA d4 d5)))))
 have HE := zH (zA e0 (zA e1 (zA e2 (zA e3 (zA e4 e5)))))
 clear d0 d1 d2 d3 d4 d5 e0 e1 e2 e3 e4 e5 hk1 hk2 hA hB hc1 hc2 hes hau hau2 hx hy hnA hnB hxm hym hxm2 hym2 hk hk12 hfs hxl hyl hxe hye
 go_enter Tryz.func149, Tryz.ntmps149
 go_upto_if 10 with fail
 refine named_box2 (G := fun W => Code.wp _ _ _ _ W) w _ _ _ _ fun W1 hb1 hz1 hx1 hy1 => ?_
 have k5 : W1.cell? ⟨w.heap.size, 5, none⟩ = some (.slice (some ⟨b, o, none⟩) 2 c) := zC hx1 5
 have e0 := zB hb1 HD.out.1
 have e1 := zB hb1 HD.out.2.1
 have e2 := zB hb1 HD.out.2.2.1
 have e3 := zB hb1 HD.out.2.2.2.1
 have e4 := zB hb1 HD.out.2.2.2.2.1
 have e5 := zB hb1 HD.out.2.2.2.2.2
 have hz1' : w.heap.size + 1 < W1.heap.size := by rw [hz1]; omega
 have H1 := zH (zA hb1 (zA hx1 hy1))
 clear hb1 hx1 hy1 hz1
 go_upto_if 27 with (go_at_call 149; refine (HA.out W1 (.slice a1 k1.len c1) k (HK.out.1.keep (H1.out.1.mono hlo)) (by omega) h0 (by rw [HXY.out.2.2.1]; have := HN.out.1; omega) (by have := HN.out.2.1; omega) HM.out.1).mono ?_; rw [← HXY.out.1]; rintro e w2 ⟨_, _, _, _, rfl, hau, hb2⟩; obtain ⟨A1, C1, rfl, _, _⟩ := zS hau.tests; obtain ⟨A2, C2, rfl, _, _⟩ := zS hau.first; obtain ⟨A3, C3, rfl, _, _⟩ := zS hau.last; obtain ⟨A4, C4, rfl, _, _⟩ := zS hau.follow; have hx2 := (hb2.block w.heap.size (by omega)).trans H1.out.2.1; have hy2 := (hb2.block (w.heap.size + 1) (by omega)).trans H1.out.2.2; have b0 : w2.cell? ⟨w.heap.size, 0, none⟩ = some (.int .i64 3) := zC hx2 0; have b0' := (fun o => zB ((Below.refl w2.heap.size w2).alloc (Nat.le_refl _) o) b0); have H2 := zH (zA hau (zA hb2 (zA hx2 hy2))); have hs2 := hb2.size; clear hau hb2 hx2 hy2 k5 e0 e1 e2 e3 e4 e5)
 clear b0'
 refine zX (G := fun W => Code.wp _ _ _ _ W) w2 _ _ fun W3 hb3 hz3 hx3 => ?_
 obtain ⟨hau, hb2, hx2, hy2⟩ := H2.out
 have hs3 := hb3.size
 have hbw3 : Below w.heap.size w W3 := H1.out.1.trans ((hb2.mono (by omega)).trans (hb3.mono (by omega)))
 have htwo : Two w W3.heap.size W3.heap.size w2.heap.size #[.int .i64 3, .int .i64 ts, .int .i64 tlo, .int .i64 thi, .int .i64 0, .slice (some ⟨b, o, none⟩) 2 c] (Value.slice A1 x.tests.length C1) (Value.slice A2 x.first.length C2) (Value.slice A3 x.last.length C3) (Value.slice A4 x.follow.length C4) x W3 := by
  have hau3 := hau.below hb3
  exact ⟨(hb3.block _ (by omega)).trans hx2, (hb3.block _ (by omega)).trans hy2, hx3, zN (winC_block hau3.first) fun i hi => ⟨by have := hi.2.1; omega, hi.2.2⟩, zN (winC_block hau3.last) fun i hi => ⟨by have := hi.2.1; omega, hi.2.2⟩, zN hau3.follow fun i hi => by omega, hau.apart, hbw3, Nat.le_refl _⟩
 have hxt : Win Test.cells 3 24 W3 (Value.slice A1 x.tests.length C1) (fun i => w.heap.size ≤ i ∧ i < W3.heap.size) x.tests := zN (winC_block (hau.below hb3).tests) fun i hi => ⟨by have := hi.2.1; omega, hi.2.2⟩
 have hE3 := fun W (hW : Below W3.heap.size W3 W) => zA (zB hW (zB hbw3 HE.out.1)) (zA (zB hW (zB hbw3 HE.out.2.1)) (zA (zB hW (zB hbw3 HE.out.2.2.1)) (zA (zB hW (zB hbw3 HE.out.2.2.2.1)) (zA (zB hW (zB hbw3 HE.out.2.2.2.2.1)) (zA (zB hW (zB hbw3 HE.out.2.2.2.2.2)) (zA (zB hW (zC htwo.p 5)) (zB hW (zC htwo.b5 0))))))))
 have H3 := zH (zA htwo (zA hxt hbw3))
 have HS3 := zH hE3
 have hwk : IntKind.i64.wrap ((2 : Int) - 1) = 1 := by decide
 have hwk1 : IntKind.i64.wrap (1 : Int) = 1 := by decide
 have hn12 := HN.out.1
 have hwl : IntKind.i64.wrap (k + (x.tests.length : Int)) = k + (x.tests.length : Int) := Go.IntWalk.i64_in _ (by omega)
 have E149 := zH (enters_of Tryz.func149 (by kernel_rfl) rfl)
 have E210 := zH (enters_of Tryz.func210 (by kernel_rfl) rfl)
 have hz3' : w2.heap.size < W3.heap.size := by rw [hz3]; omega
 clear htwo hxt hbw3 hE3 hau hb2 hx2 hy2 hb3 hx3 hz3 b0
 go_wp2_with fail
 go_cut [6] (fun q W => ∃ B y1 y2 y3 y4, q = .pointer (some ⟨B, 0, none⟩) ∧ W.heap[B]? = some (.cells #[y1, y2, y3, y4] 34 (0, 0)) ∧ W3.heap.size ≤ B ∧ AutoW W W3.heap.size y1 y2 y3 y4 y ∧ Below W3.heap.size W3 W)
 case first =>
  refine wp_region_takesL 16 15 (S := fun W => W.cell? ⟨b, o + 6, none⟩ = some (.int .i64 o2) ∧ W.cell? ⟨b, o + 6 + 1, none⟩ = some (.int .i64 t2s) ∧ W.cell? ⟨b, o + 6 + 2, none⟩ = some (.int .i64 t2l) ∧ W.cell? ⟨b, o + 6 + 3, none⟩ = some (.int .i64 t2h) ∧ W.cell? ⟨b, o + 6 + 4, none⟩ = some (.int .i64 n2) ∧ W.cell? ⟨b, o + 6 + 5, none⟩ = some (.slice a2 k2.len c2) ∧ W.cell? ⟨w.heap.size, 5, none⟩ = some (.slice (some ⟨b, o, none⟩) 2 c) ∧ W.cell? ⟨w2.heap.size, 0, none⟩ = some (Value.slice A1 x.tests.length C1)) (by kernel_rfl) (by kernel_rfl) rfl (HS3.out _ (Below.refl _ _).drew) (fun hHeld => ?_)
  try simp only [List.reduceReplicate]
  repeat refine takeLA [13, 14, 15] (h := ?_)
  refine twoL (i := 13) (j := 14) (oi := ?_) (oj := ?_) ?_ ?_ ?_ (fun K hK => ?_) (fun K hK => ?_)
  rotate_left 2
  ·rfl
  ·rfl
  ·kernel_rfl
  ·skip
   refine armCall (f := ?_) (fargs := ?_) (tys := ?_) (args := ?_) (R := ?_) ?_ ?_ ?_ ?_ ?_ ?_
   rotate_left 5
   ·rfl
   ·rfl
   exact E149.out; exact HB.out W3.drew (.slice a2 k2.len c2) (k + x.tests.length) (HK.out.2.keep ((H3.out.2.2.trans ((Below.refl _ _).drew.mono H3.out.2.2.size)).mono hlo)) (Nat.le_trans hlo H3.out.2.2.size) (by omega) (by rw [HXY.out.2.2.2]; have := HN.out.1; omega) (by have := HN.out.2.1; omega) HM.out.2.1; rfl; rw [← HXY.out.2.1]; rintro e w4 ⟨_, _, _, _, rfl, hyW, hb4⟩; obtain ⟨A5, C5, rfl, _, _⟩ := zS hyW.tests; obtain ⟨A6, C6, rfl, _, _⟩ := zS hyW.first; obtain ⟨A8, C8, rfl, _, _⟩ := zS hyW.last; obtain ⟨A9, C9, rfl, _, _⟩ := zS hyW.follow; have hB4 : Below W3.heap.size W3 w4 := (Below.refl _ _).drew.trans hb4; have H4 := zH (zA hyW hB4); clear hyW hb4 hB4; refine ⟨_, rfl, hK _ _ (fun _ => HS3.out _ H4.out.2) ?_⟩
   simp only [Act.put, List.getElem_toArray, List.getElem_cons_zero, List.getElem_cons_succ, List.setIfInBounds_toArray, List.set_cons_zero, List.set_cons_succ]
   have hHeld := HS3.out _ H4.out.2
   refine runLA [] (hS := by exact HS3.out _ (H4.out.2.trans (((Below.refl w4.heap.size w4).alloc (Nat.le_refl _) _).mono H4.out.2.size))) (h := fun hHeld => ?_)
   have hEa : (w4.alloc (.cells #[.slice none 0 0, .slice none 0 0, .slice none 0 0, .slice none 0 0] 34)).heap[w4.heap.size]? = some (.cells #[.slice none 0 0, .slice none 0 0, .slice none 0 0, .slice none 0 0] 34 (0, 0)) := heap_alloc_new w4 _
   have hBa := (Below.refl w4.heap.size w4).alloc (Nat.le_refl _) (.cells #[.slice none 0 0, .slice none 0 0, .slice none 0 0, .slice none 0 0] 34)
   generalize hWa : World.alloc w4 _ = Wa at hHeld hEa hBa ⊢
   have g0 : Wa.cell? ⟨w4.heap.size, 0, none⟩ = some (.slice none 0 0) := zC hEa 0
   have g1 : Wa.cell? ⟨w4.heap.size, 1, none⟩ = some (.slice none 0 0) := zC hEa 1
   have g2 : Wa.cell? ⟨w4.heap.size, 2, none⟩ = some (.slice none 0 0) := zC hEa 2
   have g3 : Wa.cell? ⟨w4.heap.size, 3, none⟩ = some (.slice none 0 0) := zC hEa 3
   have z0 : Wa.frozen? ⟨w4.heap.size, 0, none⟩ = false := zK hEa 0
   have z1 : Wa.frozen? ⟨w4.heap.size, 1, none⟩ = false := zK hEa 1
   have z2 : Wa.frozen? ⟨w4.heap.size, 2, none⟩ = false := zK hEa 2
   have z3 : Wa.frozen? ⟨w4.heap.size, 3, none⟩ = false := zK hEa 3
   have hp4 := put4 hEa (Value.slice A5 y.tests.length C5) (Value.slice A6 y.first.length C6) (Value.slice A8 y.last.length C8) (Value.slice A9 y.follow.length C9)
   have H5 := zH (zA hEa (zA hBa hp4))
   have hs4 := H4.out.2.size
   have HWA := zH hWa
   clear hEa hBa hp4 hWa
   refine lastA [] (h := ?_)
   refine wpAnyL_done (by kernel_rfl) ?_ _
   clear hHeld g0 g1 g2 g3 z0 z1 z2 z3
   go_wp2_with fail
   go_meet
   case rel => exact ⟨w4.heap.size, (Value.slice A5 y.tests.length C5), (Value.slice A6 y.first.length C6), (Value.slice A8 y.last.length C8), (Value.slice A9 y.follow.length C9), rfl, H5.out.2.2.1, hs4, ((H4.out.1.below H5.out.2.1).store H5.out.1 H5.out.2.2.2), (H4.out.2.trans (H5.out.2.1.mono hs4)).trans (zO H5.out.2.2.2 (Nat.le_trans hs4 H5.out.2.1.size) fun i hi => by have h : i = w4.heap.size := hi; omega)⟩
  ·skip
   refine armRun (v := ?_) (w' := ?_) ?_ ?_ ?_
   rotate_left 2
   ·rfl
   ·first | (go_simp; done) | (go_simp; with_reducible rfl) | (go_simp; constructor <;> with_reducible rfl)
   refine hK _ _ (fun _ => HS3.out _ ((Below.refl W3.heap.size W3).alloc (Nat.le_refl _) _).drew) ?_
   simp only [Act.put, List.getElem_toArray, List.getElem_cons_zero, List.getElem_cons_succ, List.setIfInBounds_toArray, List.set_cons_zero, List.set_cons_succ]
   have hHeld := HS3.out _ ((Below.refl W3.heap.size W3).alloc (Nat.le_refl _) (.cells #[.slice none 0 0, .slice none 0 0, .slice none 0 0, .slice none 0 0] 34)).drew
   have hEa : (W3.alloc (.cells #[.slice none 0 0, .slice none 0 0, .slice none 0 0, .slice none 0 0] 34)).drew.heap[W3.heap.size]? = some (.cells #[.slice none 0 0, .slice none 0 0, .slice none 0 0, .slice none 0 0] 34 (0, 0)) := heap_alloc_new W3 _
   have hBa := ((Below.refl W3.heap.size W3).alloc (Nat.le_refl _) (.cells #[.slice none 0 0, .slice none 0 0, .slice none 0 0, .slice none 0 0] 34)).drew
   have hsa : W3.heap.size < (W3.alloc (.cells #[.slice none 0 0, .slice none 0 0, .slice none 0 0, .slice none 0 0] 34)).drew.heap.size := Nat.lt_of_lt_of_eq (Nat.lt_succ_self _) (World.size_alloc W3 _).symm
   generalize hWa : World.drew (World.alloc W3 _) = Wa at hHeld hEa hBa hsa ⊢
   have H5 := zH (zA hEa hBa)
   have HWA := zH hWa
   clear hEa hBa hWa
   refine callLA [] (args := ?_) (R := ?_) (he := ?_) (hc := ?_) (hargs := ?_) (h := ?_)
   rotate_left 2
   exact E149.out; exact HB.out Wa (.slice a2 k2.len c2) (k + x.tests.length) (HK.out.2.keep ((H3.out.2.2.trans (H5.out.2.mono H3.out.2.2.size)).mono hlo)) (by have := H3.out.2.2.size; omega) (by omega) (by rw [HXY.out.2.2.2]; have := HN.out.1; omega) (by have := HN.out.2.1; omega) HM.out.2.1; rfl; rw [← HXY.out.2.1]; rintro e w4 ⟨_, _, _, _, rfl, hyW, hb4⟩; obtain ⟨A5, C5, rfl, _, _⟩ := zS hyW.tests; obtain ⟨A6, C6, rfl, _, _⟩ := zS hyW.first; obtain ⟨A8, C8, rfl, _, _⟩ := zS hyW.last; obtain ⟨A9, C9, rfl, _, _⟩ := zS hyW.follow; have hB4 : Below W3.heap.size W3 w4 := H5.out.2.trans (hb4.mono H5.out.2.size); have hE4 := (hb4.block W3.heap.size (by omega)).trans H5.out.1; have H4 := zH (zA hyW (zA hB4 hE4)); clear hyW hb4 hB4 hE4; refine .inl ⟨_, rfl, HS3.out _ H4.out.2.1, fun hHeld => ?_⟩
   refine normLA (h := ?_)
   have hEa := H4.out.2.2
   have g0 : w4.cell? ⟨W3.heap.size, 0, none⟩ = some (.slice none 0 0) := zC hEa 0
   have g1 : w4.cell? ⟨W3.heap.size, 1, none⟩ = some (.slice none 0 0) := zC hEa 1
   have g2 : w4.cell? ⟨W3.heap.size, 2, none⟩ = some (.slice none 0 0) := zC hEa 2
   have g3 : w4.cell? ⟨W3.heap.size, 3, none⟩ = some (.slice none 0 0) := zC hEa 3
   have z0 : w4.frozen? ⟨W3.heap.size, 0, none⟩ = false := zK hEa 0
   have z1 : w4.frozen? ⟨W3.heap.size, 1, none⟩ = false := zK hEa 1
   have z2 : w4.frozen? ⟨W3.heap.size, 2, none⟩ = false := zK hEa 2
   have z3 : w4.frozen? ⟨W3.heap.size, 3, none⟩ = false := zK hEa 3
   have hp4 := put4 hEa (Value.slice A5 y.tests.length C5) (Value.slice A6 y.first.length C6) (Value.slice A8 y.last.length C8) (Value.slice A9 y.follow.length C9)
   have H6 := zH hp4
   clear hEa hp4
   refine lastA [] (h := ?_)
   refine wpAnyL_done (by kernel_rfl) ?_ _
   clear hHeld g0 g1 g2 g3 z0 z1 z2 z3
   go_wp2_with fail
   go_meet
   case rel => exact ⟨W3.heap.size, (Value.slice A5 y.tests.length C5), (Value.slice A6 y.first.length C6), (Value.slice A8 y.last.length C8), (Value.slice A9 y.follow.length C9), rfl, H6.out.1, Nat.le_refl _, ((H4.out.1.mono (by omega)).store H4.out.2.2 H6.out.2), H4.out.2.1.trans (zO H6.out.2 H4.out.2.1.size fun i hi => by have h : i = W3.heap.size := hi; omega)⟩
 case rest =>
  obtain ⟨B6, _, _, _, _, rfl, hx6, hB6, hyW, hb6⟩ := hcut
  obtain ⟨A5, C5, rfl, _, _⟩ := zS hyW.tests
  obtain ⟨A6, C6, rfl, _, _⟩ := zS hyW.first
  obtain ⟨A8, C8, rfl, _, _⟩ := zS hyW.last
  obtain ⟨A9, C9, rfl, _, _⟩ := zS hyW.follow
  have hB6l : B6 < wc.heap.size := (Array.getElem?_eq_some_iff.1 hx6).1
  have hB5l : w2.heap.size < W3.heap.size := by omega
  have hduw : Dua w W3.heap.size w2.heap.size B6 #[.int .i64 3, .int .i64 ts, .int .i64 tlo, .int .i64 thi, .int .i64 0, .slice (some ⟨b, o, none⟩) 2 c] (Value.slice A1 x.tests.length C1) (Value.slice A2 x.first.length C2) (Value.slice A3 x.last.length C3) (Value.slice A4 x.follow.length C4) (Value.slice A5 y.tests.length C5) (Value.slice A6 y.first.length C6) (Value.slice A8 y.last.length C8) (Value.slice A9 y.follow.length C9) x y wc := ⟨H3.out.1.keep hb6, hx6, hyW.first, hyW.last, hyW.follow, hyW.apart⟩
  have hxt : Win Test.cells 3 24 wc (Value.slice A1 x.tests.length C1) (fun i => w.heap.size ≤ i ∧ i < W3.heap.size) x.tests := zM H3.out.2.1 (zF (S := fun _ => False) hb6) (fun _ _ h => h)
  have H6 := zH (zA hduw (zA hxt (zA hyW.tests hb6)))
  have hs8 : ∀ W : World, W.heap[w2.heap.size]? = some (.cells #[.slice A1 x.tests.length C1, (Value.slice A2 x.first.length C2), (Value.slice A3 x.last.length C3), (Value.slice A4 x.follow.length C4)] 34 (0, 0)) → W.heap[B6]? = some (.cells #[.slice A5 y.tests.length C5, (Value.slice A6 y.first.length C6), (Value.slice A8 y.last.length C8), (Value.slice A9 y.follow.length C9)] 34 (0, 0)) → W.cell? ⟨w2.heap.size, 0, none⟩ = some (Value.slice A1 x.tests.length C1) ∧ W.cell? ⟨w2.heap.size, 1, none⟩ = some (Value.slice A2 x.first.length C2) ∧ W.cell? ⟨w2.heap.size, 2, none⟩ = some (Value.slice A3 x.last.length C3) ∧ W.cell? ⟨w2.heap.size, 3, none⟩ = some (Value.slice A4 x.follow.length C4) ∧ W.cell? ⟨B6, 0, none⟩ = some (Value.slice A5 y.tests.length C5) ∧ W.cell? ⟨B6, 1, none⟩ = some (Value.slice A6 y.first.length C6) ∧ W.cell? ⟨B6, 2, none⟩ = some (Value.slice A8 y.last.length C8) ∧ W.cell? ⟨B6, 3, none⟩ = some (Value.slice A9 y.follow.length C9) := fun W h5 h6 => ⟨zC h5 0, zC h5 1, zC h5 2, zC h5 3, zC h6 0, zC h6 1, zC h6 2, zC h6 3⟩
  have HS8 := zH hs8
  have hsz6 := hb6.size
  have hnt := HN.out.1
  have hfl := zA HN.out.2.2.1 HN.out.2.2.2.1
  clear hx6 hyW hb6 hduw hxt hs8
  go_wp2_with fail
  go_cut [7] (fun q W => ∃ B7 z1 z4, q = .pointer (some ⟨B7, 0, none⟩) ∧ W.heap[B7]? = some (.cells #[z1, (Value.slice A2 x.first.length C2), (Value.slice A8 y.last.length C8), z4] 34 (0, 0)) ∧ wc.heap.size ≤ B7 ∧ Win Test.cells 3 24 W z1 (fun i => w.heap.size ≤ i) (x.tests ++ y.tests) ∧ Win edgeC 7 123 W z4 (fun i => w.heap.size ≤ i) (y.follow.foldl (putO edgeOrd) x.follow) ∧ Dua w W3.heap.size w2.heap.size B6 #[.int .i64 3, .int .i64 ts, .int .i64 tlo, .int .i64 thi, .int .i64 0, .slice (some ⟨b, o, none⟩) 2 c] (Value.slice A1 x.tests.length C1) (Value.slice A2 x.first.length C2) (Value.slice A3 x.last.length C3) (Value.slice A4 x.follow.length C4) (Value.slice A5 y.tests.length C5) (Value.slice A6 y.first.length C6) (Value.slice A8 y.last.length C8) (Value.slice A9 y.follow.length C9) x y W)
  case first =>
   obtain ⟨i0, hi0, hz0⟩ := Option.map_eq_some_iff.1 info_test
   simp only [Prod.mk.injEq] at hz0
   have HI := zH (zA hi0 hz0)
   clear hi0 hz0
   have hap := fun (W : World) (hW : Below wc.heap.size wc W) => run_append_rd (P := Tryz.prog) W 30 30 24 i0 _ 3 24 Tryz.underlying30 HI.out.1 HI.out.2.1 HI.out.2.2.1 HI.out.2.2.2 rfl (by decide) _ _ x.tests.length _ (zM H6.out.2.1 (zF (S := fun _ => False) hW) (fun _ _ h => h)) _ y.tests.length _ (rdC_of_rd test_len (by decide) test_one (win_rd test_len (zM H6.out.2.2.1 (zF (S := fun _ => False) hW) (fun _ _ h => h)))) (by unfold maxLen; omega) (by omega)
   have hjo := fun (W : World) (hd : Dua w W3.heap.size w2.heap.size B6 #[.int .i64 3, .int .i64 ts, .int .i64 tlo, .int .i64 thi, .int .i64 0, .slice (some ⟨b, o, none⟩) 2 c] (Value.slice A1 x.tests.length C1) (Value.slice A2 x.first.length C2) (Value.slice A3 x.last.length C3) (Value.slice A4 x.follow.length C4) (Value.slice A5 y.tests.length C5) (Value.slice A6 y.first.length C6) (Value.slice A8 y.last.length C8) (Value.slice A9 y.follow.length C9) x y W) => refJoined_any (Value.slice A1 x.tests.length C1) (Value.slice A2 x.first.length C2) (Value.slice A3 x.last.length C3) (Value.slice A4 x.follow.length C4) (Value.slice A5 y.tests.length C5) (Value.slice A6 y.first.length C6) (Value.slice A8 y.last.length C8) (Value.slice A9 y.follow.length C9) _ x.follow y.follow W hd.two.follow (win_rd edge_len hd.ye) HM.out.2.2.1 HM.out.2.2.2 (by omega)
   have HAP := zH hap
   have HJO := zH hjo
   clear hap hjo
   refine wp_region_takesL 15 14 (S := fun W => W.cell? ⟨w2.heap.size, 0, none⟩ = some (Value.slice A1 x.tests.length C1) ∧ W.cell? ⟨w2.heap.size, 1, none⟩ = some (Value.slice A2 x.first.length C2) ∧ W.cell? ⟨w2.heap.size, 2, none⟩ = some (Value.slice A3 x.last.length C3) ∧ W.cell? ⟨w2.heap.size, 3, none⟩ = some (Value.slice A4 x.follow.length C4) ∧ W.cell? ⟨B6, 0, none⟩ = some (Value.slice A5 y.tests.length C5) ∧ W.cell? ⟨B6, 1, none⟩ = some (Value.slice A6 y.first.length C6) ∧ W.cell? ⟨B6, 2, none⟩ = some (Value.slice A8 y.last.length C8) ∧ W.cell? ⟨B6, 3, none⟩ = some (Value.slice A9 y.follow.length C9)) (by kernel_rfl) (by kernel_rfl) rfl (HS8.out _ H6.out.1.two.b5 H6.out.1.b6) (fun hHeld => ?_)
   try simp only [List.reduceReplicate]
   repeat refine takeLA [4, 11, 12, 13, 14] (h := ?_)
   refine twoL (i := 4) (j := 13) (oi := ?_) (oj := ?_) ?_ ?_ ?_ (fun K hK => ?_) (fun K hK => ?_)
   rotate_left 2
   ·rfl
   ·rfl
   ·kernel_rfl
   ·skip
    refine armAppend (s := ?_) (x := ?_) (t := ?_) (v := ?_) (xv := ?_) (R := ?_) ?_ ?_ ?_ ?_ ?_ ?_
    rotate_left 6
    ·rfl
    ·rfl
    ·rfl
    ·rfl
    ·exact HAP.out wc.drew (Below.refl _ _).drew
    rintro z1 w7 ⟨hwin7, hfr7, hsz7⟩
    obtain ⟨A7, C7, rfl, _, _⟩ := zS hwin7
    have hd7 := (H6.out.1.keep (Below.refl _ _).drew).tests (zM H6.out.2.1 (zF (S := fun _ => False) (Below.refl wc.heap.size wc).drew) (fun _ _ h => h)) hfr7
    have hz7 : Win Test.cells 3 24 w7 (Value.slice A7 (x.tests.length + y.tests.length) C7) (fun i => w.heap.size ≤ i) (x.tests ++ y.tests) := by
     refine (?_ : WinC _ _ _ _ _ _ _)
     rw [List.length_append, List.flatMap_append]
     exact zN hwin7 fun i hi => by
      have h0 := H6.out.1.two.below.size
      have h1 : wc.drew.heap.size = wc.heap.size := rfl
      omega
    have hs7 := hfr7.size
    have hs7' : wc.heap.size ≤ w7.heap.size := hs7
    have H7 := zH (zA hd7 hz7)
    clear hwin7 hfr7 hd7 hz7 hs7 hsz7
    refine hK _ _ (fun _ => HS8.out _ H7.out.1.two.b5 H7.out.1.b6) ?_
    simp only [Act.put, List.getElem_toArray, List.getElem_cons_zero, List.getElem_cons_succ, List.setIfInBounds_toArray, List.set_cons_zero, List.set_cons_succ]
    have hHeld := HS8.out _ H7.out.1.two.b5 H7.out.1.b6
    refine twoL (i := 11) (j := 13) (oi := ?_) (oj := ?_) ?_ ?_ ?_ (fun K hK => ?_) (fun K hK => ?_)
    rotate_left 2
    ·rfl
    ·rfl
    ·kernel_rfl
    ·skip
     refine armCall (f := ?_) (fargs := ?_) (tys := ?_) (args := ?_) (R := ?_) ?_ ?_ ?_ ?_ ?_ ?_
     rotate_left 5
     ·rfl
     ·rfl
     exact E210.out; exact HJO.out w7 H7.out.1; rfl; rintro e w8 ⟨_, rfl, hz4, hb8⟩; obtain ⟨A10, C10, rfl, _, _⟩ := zS hz4; have hd8 := H7.out.1.keep hb8; have H8 := zH (zA hd8 (zA (zN hz4 (fun i hi => hi.elim id (fun h => Nat.le_trans H7.out.1.two.below.size h))) (zM H7.out.2 (zF (S := fun _ => False) hb8) (fun _ _ h => h)))); have hs8 := hb8.size; clear hz4 hb8 hd8; refine ⟨_, rfl, hK _ _ (fun _ => HS8.out _ H8.out.1.two.b5 H8.out.1.b6) ?_⟩
     simp only [Act.put, List.getElem_toArray, List.getElem_cons_zero, List.getElem_cons_succ, List.setIfInBounds_toArray, List.set_cons_zero, List.set_cons_succ]
     have hHeld := HS8.out _ H8.out.1.two.b5 H8.out.1.b6
     try simp only [List.reduceReplicate]
     repeat refine takeLA [13, 14] (h := ?_)
     refine runLA [] (hS := by exact HS8.out _ ((H8.out.1.keep ((Below.refl w8.heap.size w8).alloc (Nat.le_refl _) _)).two.b5) ((H8.out.1.keep ((Below.refl w8.heap.size w8).alloc (Nat.le_refl _) _)).b6)) (h := fun hHeld => ?_)
     have hEa : (w8.alloc (.cells #[.slice none 0 0, .slice none 0 0, .slice none 0 0, .slice none 0 0] 34)).heap[w8.heap.size]? = some (.cells #[.slice none 0 0, .slice none 0 0, .slice none 0 0, .slice none 0 0] 34 (0, 0)) := heap_alloc_new w8 _
     have hBa : Below w8.heap.size w8 (w8.alloc (.cells #[.slice none 0 0, .slice none 0 0, .slice none 0 0, .slice none 0 0] 34)) := ((Below.refl w8.heap.size w8).alloc (Nat.le_refl _) _)
     generalize hWa : World.alloc w8 _ = Wa at hHeld hEa hBa ⊢
     have hd9 := H8.out.1.keep hBa
     have hz9 := zM H8.out.2.1 (zF (S := fun _ => False) hBa) (fun _ _ h => h)
     have hz1 := zM H8.out.2.2 (zF (S := fun _ => False) hBa) (fun _ _ h => h)
     have g0 : Wa.cell? ⟨w8.heap.size, 0, none⟩ = some (.slice none 0 0) := zC hEa 0
     have g1 : Wa.cell? ⟨w8.heap.size, 1, none⟩ = some (.slice none 0 0) := zC hEa 1
     have g2 : Wa.cell? ⟨w8.heap.size, 2, none⟩ = some (.slice none 0 0) := zC hEa 2
     have g3 : Wa.cell? ⟨w8.heap.size, 3, none⟩ = some (.slice none 0 0) := zC hEa 3
     have z0 : Wa.frozen? ⟨w8.heap.size, 0, none⟩ = false := zK hEa 0
     have z1 : Wa.frozen? ⟨w8.heap.size, 1, none⟩ = false := zK hEa 1
     have z2 : Wa.frozen? ⟨w8.heap.size, 2, none⟩ = false := zK hEa 2
     have z3 : Wa.frozen? ⟨w8.heap.size, 3, none⟩ = false := zK hEa 3
     have hp4 := put4 hEa (Value.slice A7 (x.tests.length + y.tests.length) C7) (Value.slice A2 x.first.length C2) (Value.slice A8 y.last.length C8) (Value.slice A10 (y.follow.foldl (putO edgeOrd) x.follow).length C10)
     have H10 := zH (zA hd9 (zA hz9 (zA hz1 (zA hEa hp4))))
     have HWA := zH hWa
     have hBl : wc.heap.size ≤ w8.heap.size := by omega
     clear hd9 hz9 hz1 hEa hp4 hWa hBa
     refine lastA [] (h := ?_)
     refine wpAnyL_done (by kernel_rfl) ?_ _
     clear hHeld g0 g1 g2 g3 z0 z1 z2 z3
     go_wp2_with fail
     go_meet
     case rel => exact ⟨w8.heap.size, _, (Value.slice A10 (y.follow.foldl (putO edgeOrd) x.follow).length C10), rfl, H10.out.2.2.2.2.1, hBl, winC_away H10.out.2.2.1 H10.out.2.2.2.2.2 (fun i hi => win_not_at H10.out.2.2.1 H10.out.2.2.2.1 (by decide) i hi), winC_away H10.out.2.1 H10.out.2.2.2.2.2 (fun i hi => win_not_at H10.out.2.1 H10.out.2.2.2.1 (by decide) i hi), H10.out.1.store H10.out.2.2.2.1 H10.out.2.2.2.2.2 (by omega) (by omega) (by have := H3.out.2.2.size; omega)⟩
    ·skip
     refine armRun (v := ?_) (w' := ?_) ?_ ?_ ?_
     rotate_left 2
     ·rfl
     ·first | (go_simp; done) | (go_simp; with_reducible rfl) | (go_simp; constructor <;> with_reducible rfl)
     refine hK _ _ (fun _ => HS8.out _ ((H7.out.1.keep ((Below.refl w7.heap.size w7).alloc (Nat.le_refl _) _)).two.b5) ((H7.out.1.keep ((Below.refl w7.heap.size w7).alloc (Nat.le_refl _) _)).b6)) ?_
     simp only [Act.put, List.getElem_toArray, List.getElem_cons_zero, List.getElem_cons_succ, List.setIfInBounds_toArray, List.set_cons_zero, List.set_cons_succ]
     have hEa : (w7.alloc (.cells #[.slice none 0 0, .slice none 0 0, .slice none 0 0, .slice none 0 0] 34)).heap[w7.heap.size]? = some (.cells #[.slice none 0 0, .slice none 0 0, .slice none 0 0, .slice none 0 0] 34 (0, 0)) := heap_alloc_new w7 _
     have hBa : Below w7.heap.size w7 (w7.alloc (.cells #[.slice none 0 0, .slice none 0 0, .slice none 0 0, .slice none 0 0] 34)) := ((Below.refl w7.heap.size w7).alloc (Nat.le_refl _) _)
     have hHeld := HS8.out _ ((H7.out.1.keep hBa).two.b5) ((H7.out.1.keep hBa).b6)
     have hsa : w7.heap.size < (w7.alloc (.cells #[.slice none 0 0, .slice none 0 0, .slice none 0 0, .slice none 0 0] 34)).heap.size := by simp
     generalize hWa : World.alloc w7 _ = Wa at hHeld hEa hBa hsa ⊢
     have H9 := zH (zA (H7.out.1.keep hBa) (zA (zM H7.out.2 (zF (S := fun _ => False) hBa) (fun _ _ h => h)) hEa))
     have HWA := zH hWa
     clear hEa hBa hWa
     refine callLA [] (args := ?_) (R := ?_) (he := ?_) (hc := ?_) (hargs := ?_) (h := ?_)
     rotate_left 2
     exact E210.out; exact HJO.out Wa H9.out.1; rfl; rintro e w8 ⟨_, rfl, hz4, hb8⟩; obtain ⟨A10, C10, rfl, _, _⟩ := zS hz4; have hd8 := H9.out.1.keep hb8; have H8 := zH (zA hd8 (zA (zN hz4 (fun i hi => hi.elim id (fun h => Nat.le_trans H9.out.1.two.below.size h))) (zA (zM H9.out.2.1 (zF (S := fun _ => False) hb8) (fun _ _ h => h)) ((hb8.block _ (Array.getElem?_eq_some_iff.1 H9.out.2.2).1).trans H9.out.2.2)))); clear hz4 hb8 hd8; refine .inl ⟨_, rfl, HS8.out _ H8.out.1.two.b5 H8.out.1.b6, fun hHeld => ?_⟩
     refine normLA (h := ?_)
     try simp only [List.reduceReplicate]
     repeat refine takeLA [14] (h := ?_)
     have hEa := H8.out.2.2.2
     have g0 : w8.cell? ⟨w7.heap.size, 0, none⟩ = some (.slice none 0 0) := zC hEa 0
     have g1 : w8.cell? ⟨w7.heap.size, 1, none⟩ = some (.slice none 0 0) := zC hEa 1
     have g2 : w8.cell? ⟨w7.heap.size, 2, none⟩ = some (.slice none 0 0) := zC hEa 2
     have g3 : w8.cell? ⟨w7.heap.size, 3, none⟩ = some (.slice none 0 0) := zC hEa 3
     have z0 : w8.frozen? ⟨w7.heap.size, 0, none⟩ = false := zK hEa 0
     have z1 : w8.frozen? ⟨w7.heap.size, 1, none⟩ = false := zK hEa 1
     have z2 : w8.frozen? ⟨w7.heap.size, 2, none⟩ = false := zK hEa 2
     have z3 : w8.frozen? ⟨w7.heap.size, 3, none⟩ = false := zK hEa 3
     have hp4 := put4 hEa (Value.slice A7 (x.tests.length + y.tests.length) C7) (Value.slice A2 x.first.length C2) (Value.slice A8 y.last.length C8) (Value.slice A10 (y.follow.foldl (putO edgeOrd) x.follow).length C10)
     have H10 := zH (zA H8.out.1 (zA H8.out.2.1 (zA H8.out.2.2.1 (zA hEa hp4))))
     have hBl : wc.heap.size ≤ w7.heap.size := by omega
     clear hEa hp4
     refine lastA [] (h := ?_)
     refine wpAnyL_done (by kernel_rfl) ?_ _
     clear hHeld g0 g1 g2 g3 z0 z1 z2 z3
     go_wp2_with fail
     go_meet
     case rel => exact ⟨w7.heap.size, _, (Value.slice A10 (y.follow.foldl (putO edgeOrd) x.follow).length C10), rfl, H10.out.2.2.2.2.1, hBl, winC_away H10.out.2.2.1 H10.out.2.2.2.2.2 (fun i hi => win_not_at H10.out.2.2.1 H10.out.2.2.2.1 (by decide) i hi), winC_away H10.out.2.1 H10.out.2.2.2.2.2 (fun i hi => win_not_at H10.out.2.1 H10.out.2.2.2.1 (by decide) i hi), H10.out.1.store H10.out.2.2.2.1 H10.out.2.2.2.2.2 (by omega) (by omega) (by have := H3.out.2.2.size; omega)⟩
   ·skip
    refine armRun (v := ?_) (w' := ?_) ?_ ?_ ?_
    rotate_left 2
    ·rfl
    ·first | (go_simp; done) | (go_simp; with_reducible rfl) | (go_simp; constructor <;> with_reducible rfl)
    refine hK _ _ (fun _ => HS8.out _ ((H6.out.1.keep ((Below.refl wc.heap.size wc).alloc (Nat.le_refl _) _).drew).two.b5) ((H6.out.1.keep ((Below.refl wc.heap.size wc).alloc (Nat.le_refl _) _).drew).b6)) ?_
    simp only [Act.put, List.getElem_toArray, List.getElem_cons_zero, List.getElem_cons_succ, List.setIfInBounds_toArray, List.set_cons_zero, List.set_cons_succ]
    have hEa : (wc.alloc (.cells #[.slice none 0 0, .slice none 0 0, .slice none 0 0, .slice none 0 0] 34)).drew.heap[wc.heap.size]? = some (.cells #[.slice none 0 0, .slice none 0 0, .slice none 0 0, .slice none 0 0] 34 (0, 0)) := heap_alloc_new wc _
    have hBa : Below wc.heap.size wc (wc.alloc (.cells #[.slice none 0 0, .slice none 0 0, .slice none 0 0, .slice none 0 0] 34)).drew := ((Below.refl wc.heap.size wc).alloc (Nat.le_refl _) _).drew
    have hHeld := HS8.out _ ((H6.out.1.keep hBa).two.b5) ((H6.out.1.keep hBa).b6)
    generalize hWa : World.drew (World.alloc wc _) = Wa at hHeld hEa hBa ⊢
    have H9 := zH (zA (H6.out.1.keep hBa) (zA (zM H6.out.2.1 (zF (S := fun _ => False) hBa) (fun _ _ h => h)) (zA hEa hBa)))
    have HWA := zH hWa
    clear hEa hBa hWa
    refine appendL [] (i := ?_) (oi := ?_) (s := ?_) (x := ?_) (t := ?_) (v := ?_) (xv := ?_) (R := ?_) ?_ ?_ ?_ ?_ ?_ ?_ ?_ ?_ ?_
    rotate_left 8
    ·simp only [nxt, List.contains_cons, List.contains_nil, Bool.or_false, Bool.or_self, Bool.true_or, cond_true, cond_false, Nat.zero_add, Nat.reduceAdd, Nat.reduceBEq, Bool.false_or]; rfl
    ·rfl
    ·kernel_rfl
    ·rfl
    ·rfl
    ·rfl
    ·rfl
    ·exact HAP.out Wa H9.out.2.2.2
    rintro z1 w7 ⟨hwin7, hfr7, hsz7⟩
    obtain ⟨A7, C7, rfl, _, _⟩ := zS hwin7
    have hd7 := H9.out.1.tests H9.out.2.1 hfr7
    have hz7 : Win Test.cells 3 24 w7 (Value.slice A7 (x.tests.length + y.tests.length) C7) (fun i => w.heap.size ≤ i) (x.tests ++ y.tests) := by
     refine (?_ : WinC _ _ _ _ _ _ _)
     rw [List.length_append, List.flatMap_append]
     exact zN hwin7 fun i hi => by
      have h0 := H6.out.1.two.below.size
      have h1 := H9.out.2.2.2.size
      omega
    have hE7 := (hfr7.block wc.heap.size (Array.getElem?_eq_some_iff.1 H9.out.2.2.1).1 fun hi => win_not_at H9.out.2.1 H9.out.2.2.1 (by decide) _ hi rfl).trans H9.out.2.2.1
    have H7 := zH (zA hd7 (zA hz7 hE7))
    clear hwin7 hfr7 hd7 hz7 hsz7 hE7
    refine ⟨HS8.out _ H7.out.1.two.b5 H7.out.1.b6, fun hHeld => ?_⟩
    simp only [Act.put, List.getElem_toArray, List.getElem_cons_zero, List.getElem_cons_succ, List.setIfInBounds_toArray, List.set_cons_zero, List.set_cons_succ]
    refine callLA [] (args := ?_) (R := ?_) (he := ?_) (hc := ?_) (hargs := ?_) (h := ?_)
    rotate_left 2
    exact E210.out; exact HJO.out w7 H7.out.1; rfl; rintro e w8 ⟨_, rfl, hz4, hb8⟩; obtain ⟨A10, C10, rfl, _, _⟩ := zS hz4; have hd8 := H7.out.1.keep hb8; have H8 := zH (zA hd8 (zA (zN hz4 (fun i hi => hi.elim id (fun h => Nat.le_trans H7.out.1.two.below.size h))) (zA (zM H7.out.2.1 (zF (S := fun _ => False) hb8) (fun _ _ h => h)) ((hb8.block _ (Array.getElem?_eq_some_iff.1 H7.out.2.2).1).trans H7.out.2.2)))); clear hz4 hb8 hd8; refine .inl ⟨_, rfl, HS8.out _ H8.out.1.two.b5 H8.out.1.b6, fun hHeld => ?_⟩
    refine normLA (h := ?_)
    try simp only [List.reduceReplicate]
    repeat refine takeLA [14] (h := ?_)
    have hEa := H8.out.2.2.2
    have g0 : w8.cell? ⟨wc.heap.size, 0, none⟩ = some (.slice none 0 0) := zC hEa 0
    have g1 : w8.cell? ⟨wc.heap.size, 1, none⟩ = some (.slice none 0 0) := zC hEa 1
    have g2 : w8.cell? ⟨wc.heap.size, 2, none⟩ = some (.slice none 0 0) := zC hEa 2
    have g3 : w8.cell? ⟨wc.heap.size, 3, none⟩ = some (.slice none 0 0) := zC hEa 3
    have z0 : w8.frozen? ⟨wc.heap.size, 0, none⟩ = false := zK hEa 0
    have z1 : w8.frozen? ⟨wc.heap.size, 1, none⟩ = false := zK hEa 1
    have z2 : w8.frozen? ⟨wc.heap.size, 2, none⟩ = false := zK hEa 2
    have z3 : w8.frozen? ⟨wc.heap.size, 3, none⟩ = false := zK hEa 3
    have hp4 := put4 hEa (Value.slice A7 (x.tests.length + y.tests.length) C7) (Value.slice A2 x.first.length C2) (Value.slice A8 y.last.length C8) (Value.slice A10 (y.follow.foldl (putO edgeOrd) x.follow).length C10)
    have H10 := zH (zA H8.out.1 (zA H8.out.2.1 (zA H8.out.2.2.1 (zA hEa hp4))))
    have hBl : wc.heap.size ≤ wc.heap.size := Nat.le_refl _
    clear hEa hp4
    refine lastA [] (h := ?_)
    refine wpAnyL_done (by kernel_rfl) ?_ _
    clear hHeld g0 g1 g2 g3 z0 z1 z2 z3
    go_wp2_with fail
    go_meet
    case rel => exact ⟨wc.heap.size, _, (Value.slice A10 (y.follow.foldl (putO edgeOrd) x.follow).length C10), rfl, H10.out.2.2.2.2.1, hBl, winC_away H10.out.2.2.1 H10.out.2.2.2.2.2 (fun i hi => win_not_at H10.out.2.2.1 H10.out.2.2.2.1 (by decide) i hi), winC_away H10.out.2.1 H10.out.2.2.2.2.2 (fun i hi => win_not_at H10.out.2.1 H10.out.2.2.2.1 (by decide) i hi), H10.out.1.store H10.out.2.2.2.1 H10.out.2.2.2.2.2 (by omega) (by omega) (by have := H3.out.2.2.size; omega)⟩
  case rest =>
   obtain ⟨B7, _, _, rfl, hx7, hB7, hz1w, hz4w, hdu⟩ := hcut
   obtain ⟨A7, C7, rfl, _, _⟩ := zS hz1w
   have hla : (x.tests ++ y.tests).length = x.tests.length + y.tests.length := List.length_append
   rw [hla] at hz1w hx7
   clear hla
   obtain ⟨A10, C10, rfl, _, _⟩ := zS hz4w
   have hB7l : B7 < wc.heap.size := (Array.getElem?_eq_some_iff.1 hx7).1
   have hsl : (∀ e ∈ y.follow.foldl (putO edgeOrd) x.follow, edgeSm e) ∧ (y.follow.foldl (putO edgeOrd) x.follow).length < 50000 := ⟨fun e he => (foldl_mem edgeOrd_laws _ _ e he).elim (HM.out.2.2.2 e) (HM.out.2.2.1 e), by have := foldl_len (o := edgeOrd) y.follow x.follow; omega⟩
   have c0 : wc.cell? ⟨w.heap.size, 0, none⟩ = some (.int .i64 3) := zC hdu.two.p 0
   have a1' : wc.cell? ⟨w2.heap.size, 1, none⟩ = some (Value.slice A2 x.first.length C2) := zC hdu.two.b5 1
   have q1' : wc.cell? ⟨B6, 1, none⟩ = some (Value.slice A6 y.first.length C6) := zC hdu.b6 1
   have H8 := zH (zA hx7 (zA hz1w (zA hz4w hdu)))
   have hszd := hdu.two.below.size
   have hszm := hdu.two.size
   have h12 := zA HN.out.2.2.2.2.1 HN.out.2.2.2.2.2
   have hrd1 := rdC_of_rd intC_len (by decide) intC_one (win_rd intC_len hdu.yf)
   have HRD := zH hrd1
   clear hx7 hz1w hz4w hdu hsl hrd1
   go_wp2_with (first | (at_builtin; (refine wpList_append_rd _ (by rfl) _ _ _ (by rfl) 3 1 8 _ Tryz.underlying31 info_int rfl (by decide) _ _ x.last.length _ (by rfl) _ (by rfl) (winC_block H9.out.2.2.2.2.2.2.2.1) y.last.length _ HRD2.out (by unfold maxLen; omega) (by omega) ?_); intro u3v w10 hwin10 hfr10 hsz10'; obtain ⟨A12, C12, rfl, _, _⟩ := zS hwin10; have hx10 := (hfr10.block B7 (Array.getElem?_eq_some_iff.1 H9.out.2.2.2.2.1).1 (fun hi => win_not_at H9.out.2.2.2.2.2.2.2.1 H9.out.2.2.2.2.1 (by decide) _ hi rfl)).trans H9.out.2.2.2.2.1; have hr10 := (hfr10.block (w.heap.size + 1) (Array.getElem?_eq_some_iff.1 H9.out.2.2.2.2.2.2.1).1 (fun hi => win_not_at H9.out.2.2.2.2.2.2.2.1 H9.out.2.2.2.2.2.2.1 (by decide) _ hi rfl)).trans H9.out.2.2.2.2.2.2.1; have hxs := setCell_blk (o := 2) hx10 (Value.slice A12 (x.last.length + y.last.length) C12); have hfs := fr_setCell w10 ⟨B7, 2, none⟩ (Value.slice A12 (x.last.length + y.last.length) C12); have hne : w.heap.size + 1 ≠ B7 := (by have := H3.out.2.2.size; omega); have hrs := (hfs.block _ (Array.getElem?_eq_some_iff.1 hr10).1 hne).trans hr10; have m2 := zC hx10 2; have g2 := zK hx10 2; have s0 := zC hxs 0; have s1 := zC hxs 1; have s2 := zC hxs 2; have s4 := zC hxs 3; have r0 := zC hrs 0; have r1 := zC hrs 1; have r2 := zC hrs 2; have r3 := zC hrs 3; have fr0 := zK hrs 0; have fr1 := zK hrs 1; have fr2 := zK hrs 2; have fr3 := zK hrs 3; have hp4 := put4 hrs (Value.slice A7 (x.tests.length + y.tests.length) C7) (Value.slice A11 (x.first.length + y.first.length) C11) (Value.slice A12 (x.last.length + y.last.length) C12) (Value.slice A10 (y.follow.foldl (putO edgeOrd) x.follow).length C10); simp only [List.getElem?_toArray, List.getElem?_cons_zero, List.getElem?_cons_succ, List.setIfInBounds_toArray, List.set_cons_zero, List.set_cons_succ] at m2 s0 s1 s2 s4 r0 r1 r2 r3; have H10 := zH (zA hwin10 (zA hfr10 (zA hx10 (zA hxs (zA hfs (zA hrs hp4)))))); clear hwin10 hfr10 hx10 hr10 hxs hfs hrs hp4 m1 g1 a2' q2' hsz10') | (at_builtin; (refine wpList_append_rd _ (by rfl) _ _ _ (by rfl) 3 1 8 _ Tryz.underlying31 info_int rfl (by decide) _ _ x.first.length _ (by rfl) _ (by rfl) (winC_block H8.out.2.2.2.two.first) y.first.length _ HRD.out (by unfold maxLen; omega) (by omega) ?_); intro u2v w9 hwin9 hfr9 hsz9; obtain ⟨A11, C11, rfl, _, _⟩ := zS hwin9; have hob := winC_ob H8.out.2.2.2.two.first; have hx9 := (hfr9.block B7 hB7l (fun hi => win_not_at H8.out.2.2.2.two.first H8.out.1 (by decide) _ hi rfl)).trans H8.out.1; have hxs := setCell_blk (o := 1) hx9 (Value.slice A11 (x.first.length + y.first.length) C11); have hfs := fr_setCell w9 ⟨B7, 1, none⟩ (Value.slice A11 (x.first.length + y.first.length) C11); have hcat := H8.out.2.2.2.cat hfr9; have hb5 := (hfs.block _ (Array.getElem?_eq_some_iff.1 hcat.2.1).1 (fun h => by have h : w2.heap.size = B7 := h; omega)).trans hcat.2.1; have hb6 := (hfs.block _ (Array.getElem?_eq_some_iff.1 hcat.2.2.1).1 (fun h => by have h : B6 = B7 := h; omega)).trans hcat.2.2.1; have hrr := (hfs.block _ (Array.getElem?_eq_some_iff.1 hcat.1).1 (fun h => by have h : w.heap.size + 1 = B7 := h; have := H3.out.2.2.size; omega)).trans hcat.1; have hl3 := winC_away hcat.2.2.2.1 hfs (fun i hi => win_not_at hcat.2.2.2.1 hx9 (by decide) i hi); have hy3 := winC_away hcat.2.2.2.2.1 hfs (fun i hi => win_not_at hcat.2.2.2.2.1 hx9 (by decide) i hi); have m1 := zC hx9 1; have g1 := zK hx9 1; have a2' := zC hb5 2; have q2' := zC hb6 2; simp only [List.getElem?_toArray, List.getElem?_cons_zero, List.getElem?_cons_succ, List.setIfInBounds_toArray, List.set_cons_zero, List.set_cons_succ] at m1 a2' q2'; have H9 := zH (zA hwin9 (zA hfr9 (zA hob (zA hx9 (zA hxs (zA hfs (zA hrr (zA hl3 hy3)))))))); have hbz := hcat.2.2.2.2.2.size; have hsz10 := hfr9.size; have hrd2 := rdC_of_rd intC_len (by decide) intC_one (win_rd intC_len hy3); have HRD2 := zH hrd2; clear hwin9 hfr9 hob hx9 hxs hfs hcat hb5 hb6 hrr hl3 hy3 c0 a1' q1' hsz9 hrd2))
   obtain ⟨hx7, hz1w, hz4w, hdu⟩ := H8.out
   obtain ⟨hwin9, hfr9, hob, hx9, hxs9, hfs9, hrr, hl3, hy3⟩ := H9.out
   obtain ⟨hwin10, hfr10, hx10, hxs, hfs, hrs, hp4⟩ := H10.out
   have g0 := zC hp4.1 0
   have g1 := zC hp4.1 1
   have g2 := zC hp4.1 2
   have g3 := zC hp4.1 3
   simp only [List.getElem?_toArray, List.getElem?_cons_zero, List.getElem?_cons_succ] at g0 g1 g2 g3
   refine bodyPost_ret (v := .agg #[(Value.slice A7 (x.tests.length + y.tests.length) C7), (Value.slice A11 (x.first.length + y.first.length) C11), (Value.slice A12 (x.last.length + y.last.length) C12), (Value.slice A10 (y.follow.foldl (putO edgeOrd) x.follow).length C10)]) (by simp [results, Tryz.results149, go_sem, g0, g1, g2, g3]) rfl ⟨_, _, _, _, rfl, ?_, ?_⟩
   ·rw [HAU.out]
    have hu2 : Win intC 1 3 w9 (Value.slice A11 (x.first.length + y.first.length) C11) (fun i => (w.heap.size ≤ i ∧ i < W3.heap.size ∧ some i = (Value.slice A2 x.first.length C2).ownBlock) ∨ i = wc.heap.size) (x.first ++ y.first) := by
     refine (?_ : WinC _ _ _ _ _ _ _)
     rw [List.length_append, List.flatMap_append]
     exact zN hwin9 fun i hi => hi.imp (fun h => ⟨h.1.2.1.1, h.1.2.1.2, h.1.1⟩) id
    have hu3 : Win intC 1 3 w10 (Value.slice A12 (x.last.length + y.last.length) C12) (fun i => (w.heap.size ≤ i ∧ i < W3.heap.size ∧ some i = (Value.slice A3 x.last.length C3).ownBlock) ∨ i = w9.heap.size) (x.last ++ y.last) := by
     refine (?_ : WinC _ _ _ _ _ _ _)
     rw [List.length_append, List.flatMap_append]
     refine zN hwin10 fun i hi => ?_
     rcases hi with h | h
     ·exact .inl ⟨h.1.2.1.1, h.1.2.1.2, h.1.1⟩
     ·exact .inr (by simpa [World.setCell] using h)
    have ho2 := winC_ob hu2
    have ho3 := winC_ob hl3
    have hdis : ∀ i, some i = (Value.slice A11 (x.first.length + y.first.length) C11).ownBlock → ¬ some i = (Value.slice A3 x.last.length C3).ownBlock := fun i hi h3 => by
     rcases (ho2 i hi).1 with h | h
     ·exact hdu.two.apart i h.2.2 h3
     ·have := (ho3 i h3).1.2; omega
    have hu2' := winC_away (winC_away hu2 hfs9 (fun i hi => win_not_at hu2 hx9 (by decide) i hi)) hfr10 hdis
    have hz1' := win_skip (winC_away (win_skip hz1w hdu.two.first (by decide) hfr9) hfs9 (fun i hi => win_not_at (win_skip hz1w hdu.two.first (by decide) hfr9) hx9 (by decide) i hi)) hl3 (by decide) hfr10
    have hz4' := win_skip (winC_away (win_skip hz4w hdu.two.first (by decide) hfr9) hfs9 (fun i hi => win_not_at (win_skip hz4w hdu.two.first (by decide) hfr9) hx9 (by decide) i hi)) hl3 (by decide) hfr10
    have hw := H3.out.2.2.size
    refine ⟨win_res hz1' hx10 hfs hrs hp4.2 (by decide), zN (win_res hu2' hx10 hfs hrs hp4.2 (by decide)) fun i hi => by omega, zN (win_res hu3 hx10 hfs hrs hp4.2 (by decide)) fun i hi => by have := hfr9.size; omega, win_res hz4' hx10 hfs hrs hp4.2 (by decide), fun i hi hj => ?_⟩
    have h2 := ho2 i hi
    have h3 := winC_ob hu3 i hj
    rcases h3.1 with h | h
    ·exact hdis i hi h.2.2
    ·omega
   ·have h1 : Below w.heap.size w w9 := hdu.two.below.trans (zO hfr9 hszd fun i hi => (hob i hi).1.1)
    have h2 := h1.trans (zO hfs9 h1.size fun i hi => by have h : i = B7 := hi; have := H3.out.2.2.size; omega)
    have h3 := h2.trans (zO hfr10 h2.size fun i hi => (winC_ob hl3 i hi).1.1)
    have h4 := h3.trans (zO hfs h3.size fun i hi => by have h : i = B7 := hi; have := H3.out.2.2.size; omega)
    exact h4.trans (zO hp4.2 h4.size fun i hi => by have h : i = w.heap.size + 1 := hi; omega)
end
end Go.Proofs.YtgiploddoffmjaaGreat
