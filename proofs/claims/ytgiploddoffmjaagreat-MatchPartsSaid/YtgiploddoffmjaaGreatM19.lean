/- My texts, joined: W49. -/
import Derived.Below
import Derived.BigQuiet
import Derived.Deep.AppendLies
import Derived.Deep.DeepCutAuto
import Derived.Deep.QuietTactic
import Derived.Deep.RegionHeld
import Derived.Deep.RegionHeld3
import Derived.Deep.RegionLaw
import Derived.Defers
import Derived.Ground.Names2Prog
import Derived.Ground.Names8Prog
import Derived.Ground.SlsfProg
import Derived.Handy
import Derived.KernelRfl
import Derived.Laws.AppendOwn
import Derived.Laws.AppendOwnNone
import Derived.Laws.CopyRow
import Derived.Laws.Pointers
import Derived.Laws.StructEq
import Derived.Lib.Hide
import Derived.Lib.Overlaps
import Derived.LoopIn
import Derived.LoopN
import Derived.LoopNIn
import Derived.LoopTactic
import Derived.MapKept
import Derived.Maps.AppendAt
import Derived.Maps.OwnOps
import Derived.Maps.RangeRun
import Derived.Maps.RangeWalk
import Derived.Outline
import Derived.OwnWalk
import Derived.OwnWalkIn
import Derived.RangeFuncBound
import Derived.RangeFuncCalls
import Derived.RangeFuncLeaves
import Derived.RangeFuncNested
import Derived.Recover
import Derived.Shelf.Abstract
import Derived.Shelf.RegionOpen
import Derived.Shelf.SlGeneric
import Derived.Shelf.SlLaysF0
import Derived.Shelf.SlSortCmp.HeapSort1
import Derived.Shelf.SlSortCmp.Insertion
import Derived.Shelf.SlSortCmp.Insertion1
import Derived.Shelf.SlSortCmp.Median1
import Derived.Shelf.SlSortCmp.NoneTotal
import Derived.Shelf.SlSortCmp.PartialInsertion1
import Derived.Shelf.SlSortCmp.Partition1
import Derived.Shelf.SlSortCmp.PartitionEqual1
import Derived.Shelf.SlSortCmp.Pdq1
import Derived.Shelf.SlSortCmp.Pivot1
import Derived.Shelf.SlSortCmp.ReverseRange1
import Derived.Shelf.SlSortCmp.SiftDown1
import Derived.Shelf.SlSortCmp.Whole1
import Derived.Shelf.SlSortCmp.WholeK
import Derived.Shelf.Slices.In.SortNone
import Derived.Shelf.Small.Bits
import Derived.Shelf.Sort.Plain
import Derived.Shelf.Spec.SlicesGrow
import Derived.TacticsInMore
import Derived.Test.YtgiploddoffmjaaGreatProg
import Derived.WalkKit
import Derived.WalkLawsBesides
import Derived.WalkSpells
import Derived.Test.YtgiploddoffmjaaGreatM0
import Derived.Test.YtgiploddoffmjaaGreatM1
import Derived.Test.YtgiploddoffmjaaGreatM2
import Derived.Test.YtgiploddoffmjaaGreatM3
import Derived.Test.YtgiploddoffmjaaGreatM4
import Derived.Test.YtgiploddoffmjaaGreatM5
import Derived.Test.YtgiploddoffmjaaGreatM6
import Derived.Test.YtgiploddoffmjaaGreatM8
import Derived.Test.YtgiploddoffmjaaGreatM9
import Derived.Test.YtgiploddoffmjaaGreatM10
import Derived.Test.YtgiploddoffmjaaGreatM11
import Derived.Test.YtgiploddoffmjaaGreatM12
import Derived.Test.YtgiploddoffmjaaGreatM13
set_option linter.unusedVariables false
set_option linter.unusedSimpArgs false
set_option linter.unusedSectionVars false
set_option maxRecDepth 10000
namespace Go.Proofs.YtgiploddoffmjaaGreat
section
open Go.RowKit Go.Shelf
theorem edge_cells {w : World} {b off n c : Nat} {S : Nat → Prop} {xs : List Edge} (h : Win edgeC 7 123 w (.slice (some ⟨b, off, none⟩) n c) S xs) {i : Nat} {x : Edge} (hx : xs[i]? = some x) :
 w.cell? ⟨b, off + i * 7, none⟩ = some (.int .i64 x.from_) ∧ w.cell? ⟨b, off + i * 7 + 1, none⟩ = some (.int .i64 x.to_) ∧ w.cell? ⟨b, off + i * 7 + 2, none⟩ = some (.int .i64 x.n) ∧ w.cell? ⟨b, off + i * 7 + 3, none⟩ = some (.bool x.lack) ∧ w.cell? ⟨b, off + i * 7 + 4, none⟩ = some (.int .i64 x.t.src) ∧ w.cell? ⟨b, off + i * 7 + 5, none⟩ = some (.int .i64 x.t.low) ∧ w.cell? ⟨b, off + i * 7 + 6, none⟩ = some (.int .i64 x.t.high) := by
 obtain ⟨_, _, e, _, hc⟩ := rd_at (win_rd edge_len h) hx
 injection e with e
 injection e with e1 e2
 subst e1; subst e2
 exact ⟨hc 0 _ rfl, hc 1 _ rfl, hc 2 _ rfl, hc 3 _ rfl, hc 4 _ rfl, hc 5 _ rfl, hc 6 _ rfl⟩
theorem flat_take7 (k : Nat) (ys : List Edge) : (ys.flatMap edgeC).take (k * 7) = (ys.take k).flatMap edgeC := by
 induction ys generalizing k with
 | nil => simp
 | cons y ys ih =>
  cases k with
  | zero => simp
  | succ k => rw [List.take_succ_cons, List.flatMap_cons, List.flatMap_cons, List.take_append, edge_len, show (k + 1) * 7 - 7 = k * 7 by omega, ih, List.take_of_length_le (by rw [edge_len]; omega)]
theorem zero_edge (w : World) : (zeroValue 123).run Tryz.prog w = .ok (.agg #[.int .i64 0, .int .i64 0, .int .i64 0, .bool false, .int .i64 0, .int .i64 0, .int .i64 0]) w := by kernel_rfl
set_option maxRecDepth 100000 in
set_option maxHeartbeats 16000000 in
theorem compactEdges_any (a : Option Addr) (c : Nat) (S : Nat → Prop) (w : World) (es : List Edge) (hw : Win edgeC 7 123 w (.slice a es.length c) S es) (hl : es.length < 100000) :
 Calls Tryz.prog 84 #[.slice a es.length c] w fun e w' => ∃ es' : List Edge, e = .returned (.slice a es'.length c) ∧ Hid (es' = compactL es) ∧ Win edgeC 7 123 w' (.slice a es'.length c) S es' ∧ Fr (fun i => some i = (Value.slice a es.length c).ownBlock) w w' := by
 have hnc : es.length ≤ c := by
  obtain ⟨a0, c0, e0, h, _⟩ := zS hw
  injection e0 with _ _ e3
  omega
 have HW := zH hw
 by_cases h2 : es.length < 2
 ·have e : compactL es = es := by
   match es, h2 with
   | [], _ => rfl
   | [x], _ => rfl
  have HE := zH e
  have l2 : (es.length : Int) < 2 := by omega
  clear e h2 hw
  go_enter Tryz.func84, Tryz.ntmps84
  go_wp2
  go_ret
  exact ⟨es, rfl, zH HE.out.symm, HW.out, fr_refl _ _⟩
 obtain ⟨b, off, rfl⟩ : ∃ b off, a = some ⟨b, off, none⟩ := by
  rcases hw.2 with ⟨e0, e1⟩ | ⟨g, o, _, _, e0, _⟩
  ·omega
  ·injection e0 with e0; exact ⟨g, o, e0⟩
 have hcm : c ≤ 9223372036854775807 := by
  rcases hw.2 with ⟨e0, _⟩ | ⟨g', off', cap, cur, e0, _, _, _, h2, _⟩
  ·cases e0
  ·injection e0 with _ _ e3
   simp only [maxLen] at h2
   omega
 clear hw
 have l2 : ¬ (es.length : Int) < 2 := by omega
 go_enter Tryz.func84, Tryz.ntmps84
 go_wp2
 go_loopw [3] (fun i W => ∃ n : Nat, i = .int .i64 n ∧ 0 < n ∧ n ≤ es.length ∧ compactL (es.take n) = es.take n ∧ Below w.heap.size w W) (fun i _ => es.length - (intOf i).toNat)
 case atStart =>
  refine ⟨1, rfl, by omega, by omega, ?_, Below.refl _ _⟩
  cases es with
  | nil => rfl
  | cons x l => cases l <;> rfl
 case round =>
  obtain ⟨k, rfl, hk0, hkl, hck, hB⟩ := hrel
  by_cases hlt : k < es.length
  rotate_left
  ·obtain rfl : k = es.length := by omega
   rw [List.take_length] at hck
   have HX := zH (zA hck hB)
   clear hck hB
   go_wp2
   go_ret
   exact ⟨es, rfl, zH HX.out.1.symm, zM HW.out (zF (S := fun _ => False) HX.out.2) (fun _ _ h => h), zF HX.out.2⟩
  obtain ⟨p, hp⟩ : ∃ p, p = k - 1 := ⟨_, rfl⟩
  have hx := List.getElem?_eq_getElem hlt
  have hy := List.getElem?_eq_getElem (show p < es.length by omega)
  generalize es[k] = x at hx
  generalize es[p]'(by omega) = y at hy
  have hwr := zM HW.out (zF (S := fun _ => False) hB) (fun _ _ h => h)
  have hb2 : Below wr.heap.size wr wr.drew := (Below.refl _ _).drew
  have qx := edge_cells (xs := es) hwr hx
  have qy := edge_cells (xs := es) hwr hy
  have hct := comp_take3 hck hk0 (by rw [← hp]; exact hy) hx
  obtain ⟨xf, xt, xn, xl, ⟨xs, xlo, xhi⟩⟩ := x
  obtain ⟨yf, yt, yn, yl, ⟨ys, ylo, yhi⟩⟩ := y
  dsimp only at qx qy
  have hwp : IntKind.i64.wrap ((k : Int) - 1) = (p : Int) := by rw [Go.IntWalk.i64_in _ (by omega)]; omega
  have n1 : (k : Int) < (es.length : Int) := by omega
  have n2 : (p : Int) < (es.length : Int) := by omega
  obtain ⟨g, hg⟩ : ∃ g, g = decide ((⟨xf, xt, xn, xl, ⟨xs, xlo, xhi⟩⟩ : Edge) = ⟨yf, yt, yn, yl, ⟨ys, ylo, yhi⟩⟩) := ⟨_, rfl⟩
  have heq := fun W => eqlEdge0 xf xt xn xs xlo xhi yf yt yn ys ylo yhi xl yl W
  rw [← hg] at heq
  have HCM := zH hct
  have HG := zH hg
  have hBd : Below w.heap.size w wr.drew := hB.trans (hb2.mono hB.size)
  have hwd := zM HW.out (zF (S := fun _ => False) hBd) (fun _ _ h => h)
  have HO := zH (zA hx (zA hy (zA hck (zA hBd (zA hwd (zA hp hk0))))))
  have hSd : _ ∧ _ := ⟨qx, qy⟩
  have HSD := zH hSd
  clear hx hy hck hB hwr hb2 hp hct hg hBd hwd qx qy hSd
  cases g with
  | false =>
   go_wp2_with fail
   refine zR 10 (S := fun W => (W.cell? ⟨b, off + k * 7, none⟩ = some (.int .i64 xf) ∧ W.cell? ⟨b, off + k * 7 + 1, none⟩ = some (.int .i64 xt) ∧ W.cell? ⟨b, off + k * 7 + 2, none⟩ = some (.int .i64 xn) ∧ W.cell? ⟨b, off + k * 7 + 3, none⟩ = some (.bool xl) ∧ W.cell? ⟨b, off + k * 7 + 4, none⟩ = some (.int .i64 xs) ∧ W.cell? ⟨b, off + k * 7 + 5, none⟩ = some (.int .i64 xlo) ∧ W.cell? ⟨b, off + k * 7 + 6, none⟩ = some (.int .i64 xhi)) ∧ (W.cell? ⟨b, off + p * 7, none⟩ = some (.int .i64 yf) ∧ W.cell? ⟨b, off + p * 7 + 1, none⟩ = some (.int .i64 yt) ∧ W.cell? ⟨b, off + p * 7 + 2, none⟩ = some (.int .i64 yn) ∧ W.cell? ⟨b, off + p * 7 + 3, none⟩ = some (.bool yl) ∧ W.cell? ⟨b, off + p * 7 + 4, none⟩ = some (.int .i64 ys) ∧ W.cell? ⟨b, off + p * 7 + 5, none⟩ = some (.int .i64 ylo) ∧ W.cell? ⟨b, off + p * 7 + 6, none⟩ = some (.int .i64 yhi))) (by kernel_rfl) (by kernel_rfl) rfl HSD.out (fun hHeld => ?_)
   try simp only [List.reduceReplicate]
   repeat refine takeA [] (h := ?_)
   refine wpAnyH_done (by kernel_rfl) ?_ _
   clear hHeld heq
   go_wp2
   go_roundw
   case rel => exact ⟨k + 1, by go_num, by omega, by omega, by rw [HCM.out, if_neg (of_decide_eq_false HG.out.symm)], HO.out.2.2.2.1⟩
   case measure => simp [intOf]; omega
  | true =>
   have m1 : (0 : Int) ≤ (k : Int) := by omega
   have m2 : (k : Int) ≤ (es.length : Int) := by omega
   have m3 : (es.length : Int) ≤ (c : Int) := by omega
   have m5 : (k : Int) ≤ (c : Int) := by omega
   have m4 : ¬ ((k : Int) = (c : Int)) := by omega
   have m6 : ¬ ((c : Int) = (k : Int)) := by omega
   go_wp2_with fail
   refine zR 10 (S := fun W => (W.cell? ⟨b, off + k * 7, none⟩ = some (.int .i64 xf) ∧ W.cell? ⟨b, off + k * 7 + 1, none⟩ = some (.int .i64 xt) ∧ W.cell? ⟨b, off + k * 7 + 2, none⟩ = some (.int .i64 xn) ∧ W.cell? ⟨b, off + k * 7 + 3, none⟩ = some (.bool xl) ∧ W.cell? ⟨b, off + k * 7 + 4, none⟩ = some (.int .i64 xs) ∧ W.cell? ⟨b, off + k * 7 + 5, none⟩ = some (.int .i64 xlo) ∧ W.cell? ⟨b, off + k * 7 + 6, none⟩ = some (.int .i64 xhi)) ∧ (W.cell? ⟨b, off + p * 7, none⟩ = some (.int .i64 yf) ∧ W.cell? ⟨b, off + p * 7 + 1, none⟩ = some (.int .i64 yt) ∧ W.cell? ⟨b, off + p * 7 + 2, none⟩ = some (.int .i64 yn) ∧ W.cell? ⟨b, off + p * 7 + 3, none⟩ = some (.bool yl) ∧ W.cell? ⟨b, off + p * 7 + 4, none⟩ = some (.int .i64 ys) ∧ W.cell? ⟨b, off + p * 7 + 5, none⟩ = some (.int .i64 ylo) ∧ W.cell? ⟨b, off + p * 7 + 6, none⟩ = some (.int .i64 yhi))) (by kernel_rfl) (by kernel_rfl) rfl HSD.out (fun hHeld => ?_)
   try simp only [List.reduceReplicate]
   repeat refine takeA [] (h := ?_)
   refine wpAnyH_done (by kernel_rfl) ?_ _
   clear hHeld heq
   go_wp2
   go_loopw [3, 5] (fun i j W => ∃ (n m : Nat) (zs : List Edge), i = .int .i64 n ∧ j = .int .i64 m ∧ 0 < m ∧ n < k + m ∧ k + m ≤ es.length ∧ zs.length = es.length ∧ zs.take n = compactL (es.take (k + m)) ∧ zs.drop (k + m - 1) = es.drop (k + m - 1) ∧ Win edgeC 7 123 W (.slice (some ⟨b, off, none⟩) es.length c) S zs ∧ Fr (fun i => i = b) w W) (fun _ j _ => es.length - (intOf j).toNat)
   case atStart => exact ⟨k, 1, es, rfl, rfl, by omega, by omega, by omega, rfl, by rw [HCM.out, if_pos (of_decide_eq_true HG.out.symm)], rfl, HO.out.2.2.2.2.1, zF HO.out.2.2.2.1⟩
   case round =>
    obtain ⟨n, m, zs, rfl, rfl, hm0, hnm, hml, hzl, hzn, hzd, hwz, hF⟩ := hrel
    by_cases hlt2 : k + m < es.length
    rotate_left
    ·obtain rfl : m = es.length - k := by omega
     have hkm : k + (es.length - k) = es.length := by omega
     rw [hkm, List.take_length] at hzn
     obtain ⟨cur, hS, hg, hcs, ht⟩ : ∃ cur, S b ∧ wr.heap[b]? = some (.cells cur 123 (0, 0)) ∧ off + c * 7 ≤ cur.size ∧ (cur.toList.drop off).take (es.length * 7) = zs.flatMap edgeC := by
      rcases hwz.2 with ⟨h1, _⟩ | ⟨g', off', cap, cur, hv, hS, hg, _, _, h3, h4⟩
      ·cases h1
      ·injection hv with e1 e2 e3
       injection e1 with e1
       injection e1 with e1 e4
       subst e1; subst e3; subst e4
       rw [hzl] at h4
       exact ⟨cur, hS, hg, h3, h4⟩
     have hcl := fun ty => run_clear_k (P := Tryz.prog) wr 32 ty 123 _ Tryz.underlying32 zero_edge (by simp [Value.cells, Value.oneCell']) b (off + n * 7) (es.length - n) (c - n) cur hg (by omega) (by simp [Value.cells]; omega)
     have HCL := zH (zA hS (zA hg (zA hcs (zA ht (zA hzn (zA hF hzl))))))
     have p1 : ¬ ((es.length - k : Nat) : Int) < ((es.length - k : Nat) : Int) := by omega
     have p2 : (n : Int) ≤ (es.length : Int) := by omega
     have p3 : (n : Int) ≤ (c : Int) := by omega
     have p4 : ¬ ((n : Int) = (c : Int)) := by omega
     have p5 : ¬ ((c : Int) = (n : Int)) := by omega
     have p6 : (0 : Int) ≤ (n : Int) := by omega
     have HN := zH hnm
     clear hS hg hcs ht hzn hF hwz hzd hkm hzl hml hnm hm0 hlt2
     go_wp2
     go_ret
     have hzl := HCL.out.2.2.2.2.2.2
     have hn := HN.out
     have hyl2 : (zs.take n).length = n := by rw [List.length_take]; omega
     refine ⟨zs.take n, by rw [hyl2]; rfl, zH HCL.out.2.2.2.2.1, ?_, fr_mono (zT HCL.out.2.2.2.2.2.1 (fr_setRow _ _ _) fun i _ h => h) fun i hi => by rw [hi]; rfl⟩
     refine ⟨by rw [flat_len edge_len], .inr ⟨b, off, c, _, by rw [hyl2], HCL.out.1, setRow_heap _ _ _ _ _ _ HCL.out.2.1, by rw [hyl2]; omega, by unfold maxLen; omega, ?_, ?_⟩⟩
     ·have := HCL.out.2.2.1
      rw [spl_size (by simp [size_zeroCells, Value.cells]; omega)]
      exact this
     ·have := HCL.out.2.2.1
      rw [spl_list, hyl2, List.append_assoc, List.drop_append_of_le_length (by rw [List.length_take, Array.length_toList]; omega), List.drop_take, List.take_append_of_le_length (by rw [List.length_take, List.length_drop, Array.length_toList]; omega), show off + n * 7 - off = n * 7 by omega, List.take_take, Nat.min_self, ← flat_take7, ← HCL.out.2.2.2.1, List.take_take, Nat.min_eq_left (by omega)]
    ·obtain ⟨pm, hpm⟩ : ∃ pm, pm = m - 1 := ⟨_, rfl⟩
     have hx := List.getElem?_eq_getElem hlt2
     have hy := List.getElem?_eq_getElem (show k + pm < es.length by omega)
     generalize es[k + m] = x at hx
     generalize es[k + pm]'(by omega) = y at hy
     have hzx : zs[k + m]? = some x := by
      have := congrArg (fun l => l[1]?) hzd
      simp only [List.getElem?_drop] at this
      rw [show k + m - 1 + 1 = k + m by omega] at this
      rw [this]; exact hx
     have hzy : zs[k + pm]? = some y := by
      have := congrArg (fun l => l[0]?) hzd
      simp only [List.getElem?_drop] at this
      rw [show k + m - 1 + 0 = k + pm by omega] at this
      rw [this]; exact hy
     have hz0 := List.getElem?_eq_getElem (show n < zs.length by omega)
     generalize zs[n]'(by omega) = z0 at hz0
     have hwzd : Win edgeC 7 123 wr.drew (.slice (some ⟨b, off, none⟩) es.length c) S zs := zM hwz (zF (S := fun _ => False) (Below.refl _ _).drew) (fun _ _ h => h)
     have hFd : Fr (fun i => i = b) w wr.drew := zT hF (zF (S := fun i => i = b) (Below.refl _ _).drew) fun _ _ h => h
     have qx := edge_cells (xs := zs) hwzd hzx
     have qy := edge_cells (xs := zs) hwzd hzy
     rw [Nat.add_mul, ← Nat.add_assoc] at qx qy
     have hcm3 := comp_more3 (l := es) (j := k + m) (by omega) (by rw [show k + m - 1 = k + pm by omega]; exact hy) hx
     have hsf := set_front3 hnm hlt2 hzl hzd hx
     have hput := fun W (hw6 : Win edgeC 7 123 W (.slice (some ⟨b, off, none⟩) es.length c) S zs) => win_putE hw6 hzl x hz0
     have z0c := edge_cells (xs := zs) hwzd hz0
     have zfr : ∀ j, wr.drew.frozen? ⟨b, j, none⟩ = false := fun j => by
      rcases hwzd.2 with ⟨h1, _⟩ | ⟨g', off', cap, cur, hv, _, hg', _⟩
      ·cases h1
      ·injection hv with e1
       injection e1 with e1
       injection e1 with e1
       subst e1
       exact zK hg' j
     obtain ⟨x2f, x2t, x2n, x2l, ⟨x2s, x2lo, x2hi⟩⟩ := x
     obtain ⟨y2f, y2t, y2n, y2l, ⟨y2s, y2lo, y2hi⟩⟩ := y
     dsimp only at qx qy
     have hwp2 : IntKind.i64.wrap ((m : Int) - 1) = (pm : Int) := by rw [Go.IntWalk.i64_in _ (by omega)]; omega
     have hwn : IntKind.i64.wrap ((n : Int) + 1) = (n : Int) + 1 := Go.IntWalk.i64_in _ (by omega)
     have p1 : (m : Int) < ((es.length - k : Nat) : Int) := by omega
     have p2 : (pm : Int) < ((es.length - k : Nat) : Int) := by omega
     have p3 : (n : Int) < (es.length : Int) := by omega
     have p6 : (0 : Int) ≤ (n : Int) := by omega
     obtain ⟨g2, hg2⟩ : ∃ g, g = decide ((⟨x2f, x2t, x2n, x2l, ⟨x2s, x2lo, x2hi⟩⟩ : Edge) = ⟨y2f, y2t, y2n, y2l, ⟨y2s, y2lo, y2hi⟩⟩) := ⟨_, rfl⟩
     have heq2 := fun W => neqEdge0 x2f x2t x2n x2s x2lo x2hi y2f y2t y2n y2s y2lo y2hi x2l y2l W
     rw [← hg2] at heq2
     have HM := zH hcm3
     have HG2 := zH hg2
     have HZ := zH (zA hm0 (zA hnm (zA hml (zA hzl (zA hzn (zA hzd (zA hwzd (zA hFd (zA hsf (zA hput (zA z0c (zA zfr hlt2))))))))))))
     have HSD2 := zH (zA qx qy)
     have HQX := zH qx
     clear hx hy hpm hm0 hnm hml hzl hzn hzd hwz hwzd hF hFd hz0 hzx hzy hsf hlt2 hcm3 hg2 qx qy hput z0c zfr
     cases g2 with
     | true =>
      go_wp2_with fail
      refine zR 10 (S := fun W => (W.cell? ⟨b, off + k * 7 + m * 7, none⟩ = some (.int .i64 x2f) ∧ W.cell? ⟨b, off + k * 7 + m * 7 + 1, none⟩ = some (.int .i64 x2t) ∧ W.cell? ⟨b, off + k * 7 + m * 7 + 2, none⟩ = some (.int .i64 x2n) ∧ W.cell? ⟨b, off + k * 7 + m * 7 + 3, none⟩ = some (.bool x2l) ∧ W.cell? ⟨b, off + k * 7 + m * 7 + 4, none⟩ = some (.int .i64 x2s) ∧ W.cell? ⟨b, off + k * 7 + m * 7 + 5, none⟩ = some (.int .i64 x2lo) ∧ W.cell? ⟨b, off + k * 7 + m * 7 + 6, none⟩ = some (.int .i64 x2hi)) ∧ (W.cell? ⟨b, off + k * 7 + pm * 7, none⟩ = some (.int .i64 y2f) ∧ W.cell? ⟨b, off + k * 7 + pm * 7 + 1, none⟩ = some (.int .i64 y2t) ∧ W.cell? ⟨b, off + k * 7 + pm * 7 + 2, none⟩ = some (.int .i64 y2n) ∧ W.cell? ⟨b, off + k * 7 + pm * 7 + 3, none⟩ = some (.bool y2l) ∧ W.cell? ⟨b, off + k * 7 + pm * 7 + 4, none⟩ = some (.int .i64 y2s) ∧ W.cell? ⟨b, off + k * 7 + pm * 7 + 5, none⟩ = some (.int .i64 y2lo) ∧ W.cell? ⟨b, off + k * 7 + pm * 7 + 6, none⟩ = some (.int .i64 y2hi))) (by kernel_rfl) (by kernel_rfl) rfl HSD2.out (fun hHeld => ?_)
      try simp only [List.reduceReplicate]
      repeat refine takeA [] (h := ?_)
      refine wpAnyH_done (by kernel_rfl) ?_ _
      clear hHeld heq2
      go_wp2
      go_roundw
      case rel =>
       obtain ⟨hm0, hnm, hml, hzl, hzn, hzd, hwz, hF, hsf, hput, z0c, zfr, hlt2⟩ := HZ.out
       exact ⟨n, m + 1, zs, rfl, by go_num, by omega, by omega, by omega, hzl, by rw [← Nat.add_assoc, HM.out, if_pos (of_decide_eq_true HG2.out.symm)]; exact hzn, by rw [show k + (m + 1) - 1 = k + m by omega]; exact next_drop3 (by omega) hzd, hwz, hF⟩
      case measure => simp [intOf]; obtain ⟨_, _, _, _, _, _, _, _, _, _, _, _, hlt2⟩ := HZ.out; omega
     | false =>
      go_wp2_with fail
      refine zR 10 (S := fun W => (W.cell? ⟨b, off + k * 7 + m * 7, none⟩ = some (.int .i64 x2f) ∧ W.cell? ⟨b, off + k * 7 + m * 7 + 1, none⟩ = some (.int .i64 x2t) ∧ W.cell? ⟨b, off + k * 7 + m * 7 + 2, none⟩ = some (.int .i64 x2n) ∧ W.cell? ⟨b, off + k * 7 + m * 7 + 3, none⟩ = some (.bool x2l) ∧ W.cell? ⟨b, off + k * 7 + m * 7 + 4, none⟩ = some (.int .i64 x2s) ∧ W.cell? ⟨b, off + k * 7 + m * 7 + 5, none⟩ = some (.int .i64 x2lo) ∧ W.cell? ⟨b, off + k * 7 + m * 7 + 6, none⟩ = some (.int .i64 x2hi)) ∧ (W.cell? ⟨b, off + k * 7 + pm * 7, none⟩ = some (.int .i64 y2f) ∧ W.cell? ⟨b, off + k * 7 + pm * 7 + 1, none⟩ = some (.int .i64 y2t) ∧ W.cell? ⟨b, off + k * 7 + pm * 7 + 2, none⟩ = some (.int .i64 y2n) ∧ W.cell? ⟨b, off + k * 7 + pm * 7 + 3, none⟩ = some (.bool y2l) ∧ W.cell? ⟨b, off + k * 7 + pm * 7 + 4, none⟩ = some (.int .i64 y2s) ∧ W.cell? ⟨b, off + k * 7 + pm * 7 + 5, none⟩ = some (.int .i64 y2lo) ∧ W.cell? ⟨b, off + k * 7 + pm * 7 + 6, none⟩ = some (.int .i64 y2hi))) (by kernel_rfl) (by kernel_rfl) rfl HSD2.out (fun hHeld => ?_)
      try simp only [List.reduceReplicate]
      repeat refine takeA [] (h := ?_)
      refine wpAnyH_done (by kernel_rfl) ?_ _
      clear hHeld heq2
      obtain ⟨r0, r1, r2, r3, r4, r5, r6⟩ := HQX.out
      obtain ⟨s0, s1, s2, s3, s4, s5, s6⟩ := HZ.out.2.2.2.2.2.2.2.2.2.2.1
      have f0 := HZ.out.2.2.2.2.2.2.2.2.2.2.2.1 (off + n * 7)
      have f1 := HZ.out.2.2.2.2.2.2.2.2.2.2.2.1 (off + n * 7 + 1)
      have f2 := HZ.out.2.2.2.2.2.2.2.2.2.2.2.1 (off + n * 7 + 2)
      have f3 := HZ.out.2.2.2.2.2.2.2.2.2.2.2.1 (off + n * 7 + 3)
      have f4 := HZ.out.2.2.2.2.2.2.2.2.2.2.2.1 (off + n * 7 + 4)
      have f5 := HZ.out.2.2.2.2.2.2.2.2.2.2.2.1 (off + n * 7 + 5)
      have f6 := HZ.out.2.2.2.2.2.2.2.2.2.2.2.1 (off + n * 7 + 6)
      generalize hWd : wr.drew = Wd at *
      go_wp2
      go_roundw
      case rel =>
       obtain ⟨hm0, hnm, hml, hzl, hzn, hzd, hwz, hF, hsf, hput, z0c, zfr, hlt2⟩ := HZ.out
       refine ⟨n + 1, m + 1, zs.set n ⟨x2f, x2t, x2n, x2l, ⟨x2s, x2lo, x2hi⟩⟩, by go_num, by go_num, by omega, by omega, by omega, hsf.2.2, ?_, by rw [show k + (m + 1) - 1 = k + m by omega]; exact hsf.2.1, hput _ hwz, zT hF (zT (fr_setCell _ ⟨b, off + n * 7, none⟩ _) (zT (fr_setCell _ ⟨b, off + n * 7 + 1, none⟩ _) (zT (fr_setCell _ ⟨b, off + n * 7 + 2, none⟩ _) (zT (fr_setCell _ ⟨b, off + n * 7 + 3, none⟩ _) (zT (fr_setCell _ ⟨b, off + n * 7 + 4, none⟩ _) (zT (fr_setCell _ ⟨b, off + n * 7 + 5, none⟩ _) (fr_setCell _ ⟨b, off + n * 7 + 6, none⟩ _) fun i _ h => h) fun i _ h => h) fun i _ h => h) fun i _ h => h) fun i _ h => h) fun i _ h => h) fun i _ h => h⟩
       rw [← Nat.add_assoc, HM.out, if_neg (of_decide_eq_false HG2.out.symm), hsf.1, ← hzn]
      case measure => simp [intOf]; obtain ⟨_, _, _, _, _, _, _, _, _, _, _, _, hlt2⟩ := HZ.out; omega
end
end Go.Proofs.YtgiploddoffmjaaGreat
