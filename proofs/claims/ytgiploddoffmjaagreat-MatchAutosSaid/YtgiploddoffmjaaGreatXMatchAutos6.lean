/- My texts, joined: W57, W58, W59, Base14, W61, W60. -/
import Derived.Below
import Derived.BigQuiet
import Derived.Deep.AppendLies
import Derived.Deep.DeepCutAuto
import Derived.Deep.QuietTactic
import Derived.Deep.RegionHeld
import Derived.Deep.RegionHeld3
import Derived.Deep.RegionLaw
import Derived.Defers
import Derived.Ground.Names2Prog
import Derived.Ground.Names8Prog
import Derived.Ground.SlsfProg
import Derived.Handy
import Derived.KernelRfl
import Derived.Laws.AppendOwn
import Derived.Laws.AppendOwnNone
import Derived.Laws.CopyRow
import Derived.Laws.Pointers
import Derived.Laws.StructEq
import Derived.Lib.Hide
import Derived.Lib.Overlaps
import Derived.LoopIn
import Derived.LoopN
import Derived.LoopNIn
import Derived.LoopTactic
import Derived.MapKept
import Derived.Maps.AppendAt
import Derived.Maps.OwnOps
import Derived.Maps.RangeRun
import Derived.Maps.RangeWalk
import Derived.Outline
import Derived.OwnWalk
import Derived.OwnWalkIn
import Derived.RangeFuncBound
import Derived.RangeFuncCalls
import Derived.RangeFuncLeaves
import Derived.RangeFuncNested
import Derived.Recover
import Derived.Shelf.Abstract
import Derived.Shelf.RegionOpen
import Derived.Shelf.SlGeneric
import Derived.Shelf.SlLaysF0
import Derived.Shelf.SlSortCmp.HeapSort1
import Derived.Shelf.SlSortCmp.Insertion
import Derived.Shelf.SlSortCmp.Insertion1
import Derived.Shelf.SlSortCmp.Median1
import Derived.Shelf.SlSortCmp.NoneTotal
import Derived.Shelf.SlSortCmp.PartialInsertion1
import Derived.Shelf.SlSortCmp.Partition1
import Derived.Shelf.SlSortCmp.PartitionEqual1
import Derived.Shelf.SlSortCmp.Pdq1
import Derived.Shelf.SlSortCmp.Pivot1
import Derived.Shelf.SlSortCmp.ReverseRange1
import Derived.Shelf.SlSortCmp.SiftDown1
import Derived.Shelf.SlSortCmp.Whole1
import Derived.Shelf.SlSortCmp.WholeK
import Derived.Shelf.Slices.In.SortNone
import Derived.Shelf.Small.Bits
import Derived.Shelf.Sort.Plain
import Derived.Shelf.Spec.SlicesGrow
import Derived.TacticsInMore
import Derived.Test.YtgiploddoffmjaaGreatProg
import Derived.WalkKit
import Derived.WalkLawsBesides
import Derived.WalkSpells
import Derived.Test.YtgiploddoffmjaaGreatM0
import Derived.Test.YtgiploddoffmjaaGreatM1
import Derived.Test.YtgiploddoffmjaaGreatM2
import Derived.Test.YtgiploddoffmjaaGreatM3
import Derived.Test.YtgiploddoffmjaaGreatM4
import Derived.Test.YtgiploddoffmjaaGreatM5
import Derived.Test.YtgiploddoffmjaaGreatM6
import Derived.Test.YtgiploddoffmjaaGreatM8
import Derived.Test.YtgiploddoffmjaaGreatM9
import Derived.Test.YtgiploddoffmjaaGreatM10
import Derived.Test.YtgiploddoffmjaaGreatM11
import Derived.Test.YtgiploddoffmjaaGreatM12
import Derived.Test.YtgiploddoffmjaaGreatM13
import Derived.Test.YtgiploddoffmjaaGreatM18
import Derived.Test.YtgiploddoffmjaaGreatM19
import Derived.Test.YtgiploddoffmjaaGreatM20
import Derived.Test.YtgiploddoffmjaaGreatM21
import Derived.Test.YtgiploddoffmjaaGreatM22
import Derived.Test.YtgiploddoffmjaaGreatXMatchAutos1
import Derived.Test.YtgiploddoffmjaaGreatXMatchAutos2
import Derived.Test.YtgiploddoffmjaaGreatXMatchAutos3
import Derived.Test.YtgiploddoffmjaaGreatXMatchAutos4
import Derived.Test.YtgiploddoffmjaaGreatXMatchAutos5
set_option linter.unusedVariables false
set_option linter.unusedSimpArgs false
set_option linter.unusedSectionVars false
set_option maxRecDepth 10000
namespace Go.Proofs.YtgiploddoffmjaaGreat
section
open Go.RowKit Go.Shelf
set_option maxHeartbeats 16000000 in
theorem refJoined_any (a1 a2 a3 v b1 b2 b3 u : Value) (S : Nat → Prop) (l es : List Edge) (w : World) (hwn : Win edgeC 7 123 w v S l) (hu : Rd edgeC 7 w u es) (hs : ∀ e ∈ l, edgeSm e) (hse : ∀ e ∈ es, edgeSm e) (hl : l.length + es.length < 100000) :
 Calls Tryz.prog 210 #[.agg #[a1, a2, a3, v], .agg #[b1, b2, b3, u]] w fun e w' => ∃ v', e = .returned v' ∧ Win edgeC 7 123 w' v' (fun i => S i ∨ w.heap.size ≤ i) (es.foldl (putO edgeOrd) l) ∧ Below w.heap.size w w' := by
 obtain ⟨au, cu, rfl⟩ : ∃ a c, u = .slice a es.length c := by obtain ⟨_, a, c, rfl, _⟩ := hu; exact ⟨a, c, rfl⟩
 have hfm := fun m => foldl_mem edgeOrd_laws (es.take m) l
 have hfl := fun m => foldl_len (o := edgeOrd) (es.take m) l
 have HH := zH (zA hwn (zA hu (zA hs (zA hse (zA hfm hfl)))))
 clear hwn hu hs hse hfm hfl
 go_enter Tryz.func210, Tryz.ntmps210
 go_wp2_with fail
 refine named_box2 (G := fun W => Code.wp _ _ _ _ W) w _ _ _ _ fun W1 hb1 hz1 hx1 hy1 => ?_
 have HC := zH (zA hb1 hy1)
 clear hb1 hx1 hy1
 go_loopw [5, 6] (fun q i W => ∃ (m : Nat), i = .int .i64 m ∧ m ≤ es.length ∧ Win edgeC 7 123 W q (fun i => S i ∨ w.heap.size ≤ i) ((es.take m).foldl (putO edgeOrd) l) ∧ Below W1.heap.size W1 W) (fun q i _ => es.length - (intOf i).toNat)
 case atStart => exact ⟨0, rfl, by omega, zN (zM HH.out.1 (zF (S := fun _ => False) HC.out.1) (fun _ _ h => h)) (fun _ h => .inl h), Below.refl _ _⟩
 case round =>
  obtain ⟨m, rfl, hm, hw, hB⟩ := hrel
  have hBw := HC.out.1.trans (hB.mono HC.out.1.size)
  have hyr := (hB.block _ (Array.getElem?_eq_some_iff.1 HC.out.2).1).trans HC.out.2
  have k3 : wr.cell? ⟨w.heap.size + 1, 3, none⟩ = some (.slice au es.length cu) := zC hyr 3
  by_cases hlt : m < es.length
  ·have hx := List.getElem?_eq_getElem hlt
   generalize es[m] = x at hx
   have hxs := HH.out.2.2.2.1 x (List.mem_of_getElem? hx)
   obtain ⟨b, off, rfl, _, hc⟩ := rd_at (HH.out.2.1.below hBw) hx
   have hcall := refPutEdge_any _ _ _ x wr hw hxs (fun y hy => (HH.out.2.2.2.2.1 m y hy).elim (fun h => HH.out.2.2.2.1 y (List.mem_of_mem_take h)) (HH.out.2.2.1 y)) (by have := HH.out.2.2.2.2.2 m; rw [List.length_take] at this; omega)
   have hft := foldl_take (putO edgeOrd) l hx
   obtain ⟨xf, xt, xn, xl, ⟨xs, xlo, xhi⟩⟩ := x
   have c0 : wr.cell? ⟨b, off + m * 7, none⟩ = some (.int .i64 xf) := hc 0 _ rfl
   have c1 : wr.cell? ⟨b, off + m * 7 + 1, none⟩ = some (.int .i64 xt) := hc 1 _ rfl
   have c2 : wr.cell? ⟨b, off + m * 7 + 2, none⟩ = some (.int .i64 xn) := hc 2 _ rfl
   have c3 : wr.cell? ⟨b, off + m * 7 + 3, none⟩ = some (.bool xl) := hc 3 _ rfl
   have c4 : wr.cell? ⟨b, off + m * 7 + 4, none⟩ = some (.int .i64 xs) := hc 4 _ rfl
   have c5 : wr.cell? ⟨b, off + m * 7 + 5, none⟩ = some (.int .i64 xlo) := hc 5 _ rfl
   have c6 : wr.cell? ⟨b, off + m * 7 + 6, none⟩ = some (.int .i64 xhi) := hc 6 _ rfl
   have n1 : (m : Int) < (es.length : Int) := by omega
   have HCALL := zH hcall
   have HX := zH (zA hB (zA hBw hft))
   clear hB hBw hft hcall hyr hx hxs hc hw
   go_wp2_with (go_at_call 252; refine HCALL.out.mono ?_; rintro e w2 ⟨v2, rfl, hw2, hb2⟩; have H2 := zH (zA hw2 hb2); clear hw2 hb2)
   go_roundw
   case rel => exact ⟨m + 1, by go_num, by omega, by rw [HX.out.2.2]; exact zN H2.out.1 (fun i h => h.elim id (fun h => .inr (by have := HX.out.2.1.size; omega))), HX.out.1.trans (H2.out.2.mono HX.out.1.size)⟩
   case measure => simp [intOf]; omega
  ·obtain rfl : m = es.length := by omega
   have HX := zH (zA hw hBw)
   clear hw hBw hB hyr
   go_wp2
   go_ret
   refine ⟨_, rfl, ?_, HX.out.2⟩
   have := HX.out.1
   rw [List.take_length] at this
   exact this
end
section
open Go.RowKit Go.Shelf
abbrev lkE (n : Int) (lk : Option Test) : Edge := ⟨0, 0, n, lk.isSome, lk.getD zeroT⟩
theorem linkE_lk (n : Int) (lk : Option Test) (fs tos : List Int) : linkE n lk fs tos = fs.flatMap fun x => tos.map (linkP1 (lkE n lk) x) := rfl
set_option maxRecDepth 1000000 in
set_option maxHeartbeats 64000000 in
theorem refLinked_any (v vf vt u : Value) (S : Nat → Prop) (l : List Edge) (op n : Int) (t : Test) (ks : Pats) (lk : Option Test) (fs tos : List Int) (w : World) (hwn : Win edgeC 7 123 w v S l) (hf : Rd intC 1 w vf fs) (ht : Rd intC 1 w vt tos) (hk : LackR w op u lk)
 (hs : ∀ e ∈ l, edgeSm e) (hsl : ∀ e ∈ linkE n lk fs tos, edgeSm e) (hl : l.length < 50000) (hfl : fs.length ≤ 12) (htl : tos.length ≤ 12) :
 Calls Tryz.prog 209 #[v, .agg (patA ⟨op, t, n, ks⟩ u), vf, vt] w fun e w' => ∃ v', e = .returned v' ∧ Win edgeC 7 123 w' v' (fun i => S i ∨ w.heap.size ≤ i) ((linkE n lk fs tos).foldl (putO edgeOrd) l) ∧ Below w.heap.size w w' := by
 obtain ⟨af, cf, rfl⟩ : ∃ a c, vf = .slice a fs.length c := by obtain ⟨_, a, c, rfl, _⟩ := hf; exact ⟨a, c, rfl⟩
 obtain ⟨at_, ct, rfl⟩ : ∃ a c, vt = .slice a tos.length c := by obtain ⟨_, a, c, rfl, _⟩ := ht; exact ⟨a, c, rfl⟩
 have hlen := fun m => linked_len hfl htl (lkE n lk) m
 obtain ⟨L, hL⟩ : ∃ L : List Edge → List Edge, L = fun es => es.foldl (putO edgeOrd) l := ⟨_, rfl⟩
 have hLc : ∀ es : List Edge, L es = es.foldl (putO edgeOrd) l := fun es => by rw [hL]
 have hLa : ∀ (es : List Edge) (x : Edge), L (es ++ [x]) = putO edgeOrd (L es) x := fun es x => by rw [hL]; simp [List.foldl_append]
 have hLl : ∀ es : List Edge, (L es).length ≤ l.length + es.length := fun es => by rw [hL]; exact foldl_len (o := edgeOrd) es l
 have hLm : ∀ (es : List Edge) (y : Edge), y ∈ L es → y ∈ es ∨ y ∈ l := fun es y hy => by rw [hL] at hy; exact foldl_mem edgeOrd_laws es l y hy
 rw [linkE_lk] at hsl ⊢
 rw [← hLc]
 have HH := zH (zA hwn (zA hf (zA ht (zA hk (zA hs hsl)))))
 have HL := zH (zA hLa (zA hLl (zA hLm hlen)))
 have hLn : L [] = l := by rw [hL]; rfl
 have HLN := zH hLn
 clear hwn hf ht hk hs hsl hLa hLl hLm hlen hLn hLc hL
 obtain ⟨ts, tlo, thi⟩ := t
 dsimp only [patA]
 go_enter Tryz.func209, Tryz.ntmps209
 go_wp2_with fail
 refine zX (G := fun W => Code.wp _ _ _ _ W) w _ _ fun W1 hb1 hz1 hx1 => ?_
 have HC := zH (zA hb1 hx1)
 have hz1' : W1.heap.size = w.heap.size + 1 := hz1
 clear hb1 hx1 hz1
 go_loopw [0, 9] (fun q i W => ∃ (m : Nat), i = .int .i64 m ∧ m ≤ fs.length ∧ Win edgeC 7 123 W q (fun i => S i ∨ w.heap.size ≤ i) (L ((fs.take m).flatMap fun x => tos.map (linkP1 (lkE n lk) x))) ∧ Below W1.heap.size W1 W) (fun q i _ => fs.length - (intOf i).toNat)
 case atStart => exact ⟨0, rfl, by omega, by have := zN (zM HH.out.1 (zF (S := fun _ => False) HC.out.1) (fun _ _ h => h)) (fun i h => (Or.inl h : S i ∨ w.heap.size ≤ i)); rw [List.take_zero, List.flatMap_nil, HLN.out]; exact this, Below.refl _ _⟩
 case round =>
  obtain ⟨m, rfl, hm, hw, hB⟩ := hrel
  by_cases hlt : m < fs.length
  rotate_left
  ·obtain rfl : m = fs.length := by omega
   have HX := zH (zA hw (HC.out.1.trans (hB.mono HC.out.1.size)))
   clear hw hB
   go_wp2
   go_ret
   refine ⟨_, rfl, ?_, HX.out.2⟩
   have := HX.out.1
   rw [List.take_length] at this
   exact this
  have hx := List.getElem?_eq_getElem hlt
  generalize fs[m] = x at hx
  have n1 : (m : Int) < (fs.length : Int) := by omega
  have hft := flat_take (fun x => tos.map (linkP1 (lkE n lk) x)) hx
  have HX := zH (zA hw (zA hB (zA hx hft)))
  have hsz := hB.size
  obtain ⟨wq, hwq⟩ : ∃ wq, wq = wr := ⟨_, rfl⟩
  rw [← hwq] at HX hsz
  obtain rfl : wr = wq := hwq.symm
  clear hw hB hx hft
  go_wp2_with fail
  go_loopw [0, 10] (fun q j W => ∃ (k : Nat), j = .int .i64 k ∧ k ≤ tos.length ∧ Win edgeC 7 123 W q (fun i => S i ∨ w.heap.size ≤ i) (L (((fs.take m).flatMap fun x => tos.map (linkP1 (lkE n lk) x)) ++ (tos.take k).map (linkP1 (lkE n lk) x))) ∧ Below W1.heap.size W1 W) (fun q j _ => tos.length - (intOf j).toNat)
  case atStart => exact ⟨0, rfl, by omega, by rw [List.take_zero, List.map_nil, List.append_nil]; exact HX.out.1, HX.out.2.1⟩
  case round =>
   obtain ⟨k, rfl, hkl, hw, hB⟩ := hrel
   by_cases hlt2 : k < tos.length
   rotate_left
   ·obtain rfl : k = tos.length := by omega
    have HY := zH (zA hw hB)
    clear hw hB
    go_wp2
    go_roundw
    case rel => exact ⟨m + 1, by go_num, by omega, by rw [HX.out.2.2.2]; have := HY.out.1; rw [List.take_length] at this; exact this, HY.out.2⟩
    case measure => simp [intOf]; omega
   have hy := List.getElem?_eq_getElem hlt2
   generalize tos[k] = y at hy
   have hBw := HC.out.1.trans (hB.mono HC.out.1.size)
   obtain ⟨b, off, rfl, _, hc⟩ := rd_at (HH.out.2.1.below hBw) HX.out.2.2.1
   obtain ⟨b2, off2, rfl, _, hc2⟩ := rd_at (HH.out.2.2.1.below hBw) hy
   have hxr := (hB.block _ (Array.getElem?_eq_some_iff.1 HC.out.2).1).trans HC.out.2
   have n2 : (k : Int) < (tos.length : Int) := by omega
   have hmt := map_take (linkP1 (lkE n lk) x) hy
   have hmem : linkP1 (lkE n lk) x y ∈ fs.flatMap fun x => tos.map (linkP1 (lkE n lk) x) := List.mem_flatMap.2 ⟨x, List.mem_of_getElem? HX.out.2.2.1, List.mem_map.2 ⟨y, List.mem_of_getElem? hy, rfl⟩⟩
   have hsm := HH.out.2.2.2.2.2 _ hmem
   obtain ⟨pre, hpre⟩ : ∃ pre, pre = ((fs.take m).flatMap fun x => tos.map (linkP1 (lkE n lk) x)) ++ (tos.take k).map (linkP1 (lkE n lk) x) := ⟨_, rfl⟩
   have hpl : (L pre).length < 100000 := by
    have h1 := HL.out.2.1 pre
    have h2 := HL.out.2.2.2 m
    have h3 : pre.length = ((fs.take m).flatMap fun x => tos.map (linkP1 (lkE n lk) x)).length + (tos.take k).length := by rw [hpre, List.length_append, List.length_map]
    have h4 : (tos.take k).length ≤ 12 := by rw [List.length_take]; omega
    omega
   have hps : ∀ e ∈ L pre, edgeSm e := fun e he => by
    rcases HL.out.2.2.1 pre e he with h | h
    ·refine HH.out.2.2.2.2.2 e ?_
     rw [hpre, List.mem_append] at h
     rcases h with h | h
     ·obtain ⟨z, hz, h⟩ := List.mem_flatMap.1 h
      exact List.mem_flatMap.2 ⟨z, List.mem_of_mem_take hz, h⟩
     ·obtain ⟨z, hz, h⟩ := List.mem_map.1 h
      exact List.mem_flatMap.2 ⟨x, List.mem_of_getElem? HX.out.2.2.1, List.mem_map.2 ⟨z, List.mem_of_mem_take hz, h⟩⟩
    ·exact HH.out.2.2.2.2.1 e h
   rw [← hpre] at hw
   have hLN : L (((fs.take m).flatMap fun x => tos.map (linkP1 (lkE n lk) x)) ++ (tos.take (k + 1)).map (linkP1 (lkE n lk) x)) = putO edgeOrd (L pre) (linkP1 (lkE n lk) x y) := by
    rw [hmt, ← List.append_assoc, ← hpre]; exact HL.out.1 pre _
   have hkr : LackR wr op u lk := HH.out.2.2.2.1.below hBw
   have q0 : ∀ W, Below wr.heap.size wr W → W.cell? ⟨b, off + m, none⟩ = some (.int .i64 x) ∧ W.cell? ⟨b2, off2 + k, none⟩ = some (.int .i64 y) ∧ W.cell? ⟨w.heap.size, 0, none⟩ = some (.int .i64 op) ∧ W.cell? ⟨w.heap.size, 4, none⟩ = some (.int .i64 n) ∧ W.cell? ⟨w.heap.size, 5, none⟩ = some u := fun W hW =>
    ⟨by have := zB hW (hc 0 _ rfl); simpa using this, by have := zB hW (hc2 0 _ rfl); simpa using this, zB hW (zC hxr 0), zB hW (zC hxr 4), zB hW (zC hxr 5)⟩
   have HQ := zH q0
   have HY := zH (zA hw (zA hB (zA hLN (zA hsm (zA hpl hps)))))
   have HKR := zH hkr
   clear hw hB hBw hc hc2 hxr hmt hmem hsm hpre hpl hps hLN hkr q0 hy
   go_wp2_with fail
   refine wp_region_takesL 13 12 (S := fun W => W.cell? ⟨b, off + m, none⟩ = some (.int .i64 x) ∧ W.cell? ⟨b2, off2 + k, none⟩ = some (.int .i64 y) ∧ W.cell? ⟨w.heap.size, 0, none⟩ = some (.int .i64 op) ∧ W.cell? ⟨w.heap.size, 4, none⟩ = some (.int .i64 n) ∧ W.cell? ⟨w.heap.size, 5, none⟩ = some u) (by kernel_rfl) (by kernel_rfl) rfl (HQ.out _ (Below.refl _ _).drew) (fun hHeld => ?_)
   try simp only [List.reduceReplicate]
   repeat refine takeLA [11, 12] (h := ?_)
   refine runLA [] (hS := by exact HQ.out _ ((Below.refl wr.heap.size wr).drew.alloc (Nat.le_refl _) _)) (h := fun hHeld => ?_)
   refine lastA [] (h := ?_)
   refine wpAnyL_done (by kernel_rfl) ?_ _
   clear hHeld
   have hx7 : ((wr.alloc (.cells #[.int .i64 x, .int .i64 y, .int .i64 n, .bool false, .int .i64 0, .int .i64 0, .int .i64 0] 123)).drew).heap[wr.heap.size]? = some (.cells #[.int .i64 x, .int .i64 y, .int .i64 n, .bool false, .int .i64 0, .int .i64 0, .int .i64 0] 123 (0, 0)) := heap_alloc_new wr _
   have hb7 := ((Below.refl wr.heap.size wr).alloc (Nat.le_refl _) (.cells #[.int .i64 x, .int .i64 y, .int .i64 n, .bool false, .int .i64 0, .int .i64 0, .int .i64 0] 123)).drew
   generalize hW7 : World.drew (World.alloc wr _) = W7 at hx7 hb7 ⊢
   clear hW7
   have c0 := (HQ.out W7 hb7).2.2.1
   have c5 := (HQ.out W7 hb7).2.2.2.2
   rcases HKR.out with ⟨h5, rfl⟩ | ⟨h5, tc, b3, o3, n3, c3, rfl, rfl, hn3, r1, r2, r3⟩
   ·have e0 : W7.cell? ⟨wr.heap.size, 0, none⟩ = some (.int .i64 x) := zC hx7 0
    have e1 : W7.cell? ⟨wr.heap.size, 1, none⟩ = some (.int .i64 y) := zC hx7 1
    have e2 : W7.cell? ⟨wr.heap.size, 2, none⟩ = some (.int .i64 n) := zC hx7 2
    have e3 : W7.cell? ⟨wr.heap.size, 3, none⟩ = some (.bool false) := zC hx7 3
    have e4 : W7.cell? ⟨wr.heap.size, 4, none⟩ = some (.int .i64 0) := zC hx7 4
    have e5 : W7.cell? ⟨wr.heap.size, 5, none⟩ = some (.int .i64 0) := zC hx7 5
    have e6 : W7.cell? ⟨wr.heap.size, 6, none⟩ = some (.int .i64 0) := zC hx7 6
    have hcall := refPutEdge_any _ _ _ (linkP1 (lkE n none) x y) W7 (zM HY.out.1 (zF (S := fun _ => False) hb7) (fun _ _ h => h)) HY.out.2.2.2.1 HY.out.2.2.2.2.2 HY.out.2.2.2.2.1
    have HCALL := zH hcall
    have HB := zH hb7
    clear hx7 hb7 hcall c5
    go_wp2_with (go_at_call 252; refine HCALL.out.mono ?_; rintro e w9 ⟨v9, rfl, hw9, hb9⟩; have H9 := zH (zA hw9 hb9); clear hw9 hb9 e0 e1 e2 e3 e4 e5 e6)
    go_roundw
    case rel => exact ⟨k + 1, by go_num, by omega, by rw [HY.out.2.2.1]; exact zN H9.out.1 (fun i h => h.elim id (fun h => .inr (by have := HY.out.2.1.size; have := HB.out.size; omega))), HY.out.2.1.trans ((HB.out.trans (H9.out.2.mono HB.out.size)).mono HY.out.2.1.size)⟩
    case measure => simp [intOf]; omega
   ·obtain ⟨tcs, tcl, tch⟩ := tc
    have hlk2 : LackR W7 op (.slice (some ⟨b3, o3, none⟩) n3 c3) (some ⟨tcs, tcl, tch⟩) := HKR.out.below hb7
    have s1 := zB hb7 r1
    have s2 := zB hb7 r2
    have s3 := zB hb7 r3
    dsimp only at r1 r2 r3 s1 s2 s3
    have e3 : W7.cell? ⟨wr.heap.size, 3, none⟩ = some (.bool false) := zC hx7 3
    have z3 : W7.frozen? ⟨wr.heap.size, 3, none⟩ = false := zK hx7 3
    have hS : ∀ W : World, Below wr.heap.size wr W → W.cell? ⟨w.heap.size, 5, none⟩ = some (.slice (some ⟨b3, o3, none⟩) n3 c3) ∧ W.cell? ⟨b3, o3 + 6 + 1, none⟩ = some (.int .i64 tcs) ∧ W.cell? ⟨b3, o3 + 6 + 2, none⟩ = some (.int .i64 tcl) ∧ W.cell? ⟨b3, o3 + 6 + 3, none⟩ = some (.int .i64 tch) := fun W hW => ⟨(HQ.out W hW).2.2.2.2, zB hW r1, zB hW r2, zB hW r3⟩
    have HS := zH hS
    obtain ⟨X1, hX1⟩ : ∃ X1, X1 = W7.setCell ⟨wr.heap.size, 3, none⟩ (.bool true) := ⟨_, rfl⟩
    have hx1 := setCell_blk (o := 3) hx7 (.bool true)
    have hb1 : Below wr.heap.size wr X1 := hb7.trans (zO (by rw [hX1]; exact fr_setCell W7 ⟨wr.heap.size, 3, none⟩ _) hb7.size fun i hi => by have h : i = wr.heap.size := hi; omega)
    rw [← hX1] at hx1
    have hb1d : Below wr.heap.size wr X1.drew := hb1.trans ((Below.refl X1.heap.size X1).drew.mono hb1.size)
    have k4 : X1.cell? ⟨wr.heap.size, 4, none⟩ = some (.int .i64 0) := zC hx1 4
    have k5 : X1.cell? ⟨wr.heap.size, 5, none⟩ = some (.int .i64 0) := zC hx1 5
    have k6 : X1.cell? ⟨wr.heap.size, 6, none⟩ = some (.int .i64 0) := zC hx1 6
    have kz4 : X1.frozen? ⟨wr.heap.size, 4, none⟩ = false := zK hx1 4
    have kz5 : X1.frozen? ⟨wr.heap.size, 5, none⟩ = false := zK hx1 5
    have kz6 : X1.frozen? ⟨wr.heap.size, 6, none⟩ = false := zK hx1 6
    obtain ⟨W4, hW4⟩ : ∃ W4, W4 = (((X1.setCell ⟨wr.heap.size, 4, none⟩ (.int .i64 tcs)).setCell ⟨wr.heap.size, 5, none⟩ (.int .i64 tcl)).setCell ⟨wr.heap.size, 6, none⟩ (.int .i64 tch)).drew := ⟨_, rfl⟩
    have hx4' := setCell_blk (o := 6) (setCell_blk (o := 5) (setCell_blk (o := 4) hx1 (.int .i64 tcs)) (.int .i64 tcl)) (.int .i64 tch)
    have hx4 : W4.heap[wr.heap.size]? = some (.cells #[.int .i64 x, .int .i64 y, .int .i64 n, .bool true, .int .i64 tcs, .int .i64 tcl, .int .i64 tch] 123 (0, 0)) := by rw [hW4]; exact hx4'
    have hfr4 : Fr (fun i => i = wr.heap.size) X1 W4 := by
     rw [hW4]
     exact zT (fr_setCell X1 ⟨wr.heap.size, 4, none⟩ _) (zT (fr_setCell _ ⟨wr.heap.size, 5, none⟩ _) (zT (fr_setCell _ ⟨wr.heap.size, 6, none⟩ _) (fr_drewN (fun i => i = wr.heap.size) _ 1) fun i _ h => h) fun i _ h => h) fun i _ h => h
    have hb4 : Below wr.heap.size wr W4 := hb1.trans (zO hfr4 hb1.size fun i hi => by omega)
    have HX1 := zH hX1
    have HW4 := zH (zA hW4 (zA hx4 hb4))
    have HX4 := zH (zA hx1 (zA hb1 hb1d))
    have HBD := zH (hb7.trans ((Below.refl W7.heap.size W7).drew.mono hb7.size))
    clear hx4' hx4 hfr4 hb4 hW4 hS hx7 hb7 hX1 hx1 hb1 hb1d hlk2 r1 r2 r3 s1 s2 s3
    go_wp2_with fail
    refine zR 9 (S := fun W => W.cell? ⟨w.heap.size, 5, none⟩ = some (.slice (some ⟨b3, o3, none⟩) n3 c3) ∧ W.cell? ⟨b3, o3 + 6 + 1, none⟩ = some (.int .i64 tcs) ∧ W.cell? ⟨b3, o3 + 6 + 2, none⟩ = some (.int .i64 tcl) ∧ W.cell? ⟨b3, o3 + 6 + 3, none⟩ = some (.int .i64 tch)) (by kernel_rfl) (by kernel_rfl) rfl (HS.out _ HBD.out) (fun hHeld => ?_)
    try simp only [List.reduceReplicate]
    repeat refine takeA [6, 7, 8] (h := ?_)
    refine skipA [] (hS := by rw [← HX1.out]; exact HS.out _ HX4.out.2.2) (h := fun hHeld => ?_)
    rw [← HX1.out] at hHeld ⊢
    try simp only [List.reduceReplicate]
    repeat refine takeA [8] (h := ?_)
    refine skipA [] (hS := by rw [← HW4.out.1]; exact HS.out _ HW4.out.2.2) (h := fun hHeld => ?_)
    rw [← HW4.out.1] at hHeld ⊢
    refine wpAnyH_done (by kernel_rfl) ?_ _
    clear k4 k5 k6 kz4 kz5 kz6 e3 z3 hHeld c0 c5
    have hx4 := HW4.out.2.1
    have e0 : W4.cell? ⟨wr.heap.size, 0, none⟩ = some (.int .i64 x) := zC hx4 0
    have e1 : W4.cell? ⟨wr.heap.size, 1, none⟩ = some (.int .i64 y) := zC hx4 1
    have e2 : W4.cell? ⟨wr.heap.size, 2, none⟩ = some (.int .i64 n) := zC hx4 2
    have e3 : W4.cell? ⟨wr.heap.size, 3, none⟩ = some (.bool true) := zC hx4 3
    have e4 : W4.cell? ⟨wr.heap.size, 4, none⟩ = some (.int .i64 tcs) := zC hx4 4
    have e5 : W4.cell? ⟨wr.heap.size, 5, none⟩ = some (.int .i64 tcl) := zC hx4 5
    have e6 : W4.cell? ⟨wr.heap.size, 6, none⟩ = some (.int .i64 tch) := zC hx4 6
    have hcall := refPutEdge_any _ _ _ (linkP1 (lkE n (some ⟨tcs, tcl, tch⟩)) x y) W4 (zM HY.out.1 (zF (S := fun _ => False) HW4.out.2.2) (fun _ _ h => h)) HY.out.2.2.2.1 HY.out.2.2.2.2.2 HY.out.2.2.2.2.1
    have HCALL := zH hcall
    have HB := zH HW4.out.2.2
    clear hx4 hcall
    go_wp2_with (go_at_call 252; refine HCALL.out.mono ?_; rintro e w9 ⟨v9, rfl, hw9, hb9⟩; have H9 := zH (zA hw9 hb9); clear hw9 hb9 e0 e1 e2 e3 e4 e5 e6)
    go_roundw
    case rel => exact ⟨k + 1, by go_num, by omega, by rw [HY.out.2.2.1]; exact zN H9.out.1 (fun i h => h.elim id (fun h => .inr (by have := HY.out.2.1.size; have := HB.out.size; omega))), HY.out.2.1.trans ((HB.out.trans (H9.out.2.mono HB.out.size)).mono HY.out.2.1.size)⟩
    case measure => simp [intOf]; omega
end
section
open Go.RowKit Go.Shelf
theorem autoR_tests (f : Form) (k : Int) : (autoR f k).tests = (makeP f k).tests := by rw [autoR_makeP]
theorem autoR_first (f : Form) (k : Int) : (autoR f k).first = (makeP f k).first := by rw [autoR_makeP]
theorem autoR_last (f : Form) (k : Int) : (autoR f k).last = (makeP f k).last := by rw [autoR_makeP]
theorem autoR_len {f : Form} (k : Int) (h : fsize f ≤ 12) : (autoR f k).follow.length ≤ 1728 := by
 rw [autoR_makeP]
 have h1 := setO_len (o := edgeOrd) (makeP f k).follow
 have h2 := makeP_follow f k h
 show (setO edgeOrd (makeP f k).follow).length ≤ 1728
 omega
theorem autoR_mem {f : Form} {k : Int} {e : Edge} (h : e ∈ (autoR f k).follow) : e ∈ (makeP f k).follow := by
 rw [autoR_makeP] at h
 exact (mem_setO edgeOrd_laws _ _).1 h
def KidR (lo : Nat) (f : Form) (o1 : Int) (t1 : Test) (n1 : Int) (k1 : Pats) : Prop :=
 ∀ (W : World) (u : Value) (k : Int), RdKB lo W k1 u → lo ≤ W.heap.size → 0 ≤ k → k + (makeP f k).tests.length ≤ 12 → fsize f ≤ 12 → (∀ e ∈ (makeP f k).follow, edgeSm e) →
  Calls Tryz.prog 149 #[.agg (patA ⟨o1, t1, n1, k1⟩ u), .int .i64 k] W fun e w' => ∃ v1 v2 v3 v4, e = .returned (.agg #[v1, v2, v3, v4]) ∧ AutoW w' W.heap.size v1 v2 v3 v4 (autoR f k) ∧ Below W.heap.size W w'
set_option maxHeartbeats 16000000 in
theorem refAuto_one (lo : Nat) (t : Test) (n : Int) : KidR lo (.one t) 1 t n .nil := by
 intro w u k hk hlo h0 hk12 hfs hes
 obtain ⟨ts, tlo, thi⟩ := t
 dsimp only [patA]
 clear hk hes hk12 hfs
 go_enter Tryz.func149, Tryz.ntmps149
 go_upto_if 10 with fail
 refine named_box2 (G := fun W => Code.wp _ _ _ _ W) w _ _ _ _ fun W1 hb1 hz1 hx1 hy1 => ?_
 have k1 : W1.cell? ⟨w.heap.size, 1, none⟩ = some (.int .i64 ts) := zC hx1 1
 have k2 : W1.cell? ⟨w.heap.size, 2, none⟩ = some (.int .i64 tlo) := zC hx1 2
 have k3 : W1.cell? ⟨w.heap.size, 3, none⟩ = some (.int .i64 thi) := zC hx1 3
 have r0 : W1.cell? ⟨w.heap.size + 1, 0, none⟩ = some (.slice none 0 0) := zC hy1 0
 have r1 : W1.cell? ⟨w.heap.size + 1, 1, none⟩ = some (.slice none 0 0) := zC hy1 1
 have r2 : W1.cell? ⟨w.heap.size + 1, 2, none⟩ = some (.slice none 0 0) := zC hy1 2
 have r3 : W1.cell? ⟨w.heap.size + 1, 3, none⟩ = some (.slice none 0 0) := zC hy1 3
 have fr0 := zK hy1 0
 have fr1 := zK hy1 1
 have fr2 := zK hy1 2
 have fr3 := zK hy1 3
 have hz1' : W1.heap.size = w.heap.size + 2 := hz1
 have hp4 := put4 hy1 (.slice (some ⟨w.heap.size + 2, 0, none⟩) 1 1) (.slice (some ⟨w.heap.size + 2 + 1, 0, none⟩) 1 1) (.slice (some ⟨w.heap.size + 2 + 1 + 1, 0, none⟩) 1 1) (.slice none 0 0)
 obtain ⟨Wp, hWp⟩ : ∃ Wp, Wp = (((W1.setCell ⟨w.heap.size + 1, 0, none⟩ (.slice (some ⟨w.heap.size + 2, 0, none⟩) 1 1)).setCell ⟨w.heap.size + 1, 1, none⟩ (.slice (some ⟨w.heap.size + 2 + 1, 0, none⟩) 1 1)).setCell ⟨w.heap.size + 1, 2, none⟩ (.slice (some ⟨w.heap.size + 2 + 1 + 1, 0, none⟩) 1 1)).setCell ⟨w.heap.size + 1, 3, none⟩ (.slice none 0 0) := ⟨_, rfl⟩
 rw [← hWp] at hp4
 have hzp : Wp.heap.size = w.heap.size + 2 := by rw [hWp]; simpa [World.setCell] using hz1
 have hT := win_box (enc := Test.cells) (k := 3) (e := 24) Wp ⟨ts, tlo, thi⟩ #[.int .i64 ts, .int .i64 tlo, .int .i64 thi] w.heap.size (by omega) rfl rfl
 have hF := win_box (enc := intC) (k := 1) (e := 3) (Wp.alloc (.cells #[.int .i64 ts, .int .i64 tlo, .int .i64 thi] 24)) k #[.int .i64 k] w.heap.size (by simp; omega) rfl rfl
 have hL := win_box (enc := intC) (k := 1) (e := 3) ((Wp.alloc (.cells #[.int .i64 ts, .int .i64 tlo, .int .i64 thi] 24)).alloc (.cells #[.int .i64 k] 3)) k #[.int .i64 k] w.heap.size (by simp; omega) rfl rfl
 simp only [World.size_alloc, hzp] at hT hF hL
 have b1 := (Below.refl Wp.heap.size Wp).alloc (Nat.le_refl _) (.cells #[.int .i64 ts, .int .i64 tlo, .int .i64 thi] 24)
 have b2 := (Below.refl (Wp.alloc (.cells #[.int .i64 ts, .int .i64 tlo, .int .i64 thi] 24)).heap.size (Wp.alloc (.cells #[.int .i64 ts, .int .i64 tlo, .int .i64 thi] 24))).alloc (Nat.le_refl _) (.cells #[.int .i64 k] 3)
 have b3 := (Below.refl ((Wp.alloc (.cells #[.int .i64 ts, .int .i64 tlo, .int .i64 thi] 24)).alloc (.cells #[.int .i64 k] 3)).heap.size ((Wp.alloc (.cells #[.int .i64 ts, .int .i64 tlo, .int .i64 thi] 24)).alloc (.cells #[.int .i64 k] 3))).alloc (Nat.le_refl _) (.cells #[.int .i64 k] 3)
 have hr := (b3.block (w.heap.size + 1) (by simp; omega)).trans ((b2.block (w.heap.size + 1) (by simp; omega)).trans ((b1.block (w.heap.size + 1) (by omega)).trans hp4.1))
 have mv : ∀ {α : Type} {enc : α → List Value} {kk e : Nat} {W W' : World} {v : Value} {S : Nat → Prop} {xs : List α}, Win enc kk e W v S xs → Below W.heap.size W W' → Win enc kk e W' v S xs := fun h hb => zM h (zF (S := fun _ => False) hb) (fun _ _ h => h)
 have hA : AutoW _ w.heap.size (.slice (some ⟨w.heap.size + 2, 0, none⟩) 1 1) (.slice (some ⟨w.heap.size + 2 + 1, 0, none⟩) 1 1) (.slice (some ⟨w.heap.size + 2 + 1 + 1, 0, none⟩) 1 1) (.slice none 0 0) (autoR (.one ⟨ts, tlo, thi⟩) k) := ⟨mv (mv hT b2) b3, mv hF b3, hL, win_nil _ _ _ _ _, fun i hi hj => by simp [Value.ownBlock] at hi hj; omega⟩
 have hbw : Below w.heap.size w _ := ((hb1.trans ((zO hp4.2 hb1.size fun i hi => by have h : i = w.heap.size + 1 := hi; omega : Below w.heap.size W1 Wp))).trans (b1.mono (by omega))).trans ((b2.mono (by simp; omega)).trans (b3.mono (by simp; omega)))
 have HA := zH (zA hA (zA hr (zA hbw hWp)))
 clear hT hF hL b1 b2 b3 hr hp4 mv hA hbw hb1 hx1 hy1 hz1 hWp hzp
 go_wp2
 obtain ⟨hA, hr, hbw, hWp⟩ := HA.out
 rw [← hWp]
 have g0 := zC hr 0
 have g1 := zC hr 1
 have g2 := zC hr 2
 have g3 := zC hr 3
 simp only [List.getElem?_toArray, List.getElem?_cons_zero, List.getElem?_cons_succ] at g0 g1 g2 g3
 exact bodyPost_ret (v := .agg #[(.slice (some ⟨w.heap.size + 2, 0, none⟩) 1 1), (.slice (some ⟨w.heap.size + 2 + 1, 0, none⟩) 1 1), (.slice (some ⟨w.heap.size + 2 + 1 + 1, 0, none⟩) 1 1), .slice none 0 0]) (by simp only [results, Tryz.results149]; simp [go_sem, g0, g1, g2, g3]) rfl ⟨_, _, _, _, rfl, hA, hbw⟩
end
section
open Go.RowKit
section
variable {P : Program} {ops : Array Oper} {Q : Exit → Act → World → Prop} {md : Region.Mode} {S : World → Prop} {L : Nat}
theorem twoL {i j : Nat} {oi oj : Oper} {fuel : Nat} {listed : List Bool} {a : Act} {w : World} (hi : ops[i]? = some oi) (hj : ops[j]? = some oj) (hr : Region.ready md ops listed.toArray = [i, j])
 (h1 : ∀ K : Act → World → Prop, (∀ a' w', (i ≠ L → S w') → wpAnyL P md ops Q S L fuel (listed.set i true).toArray a' w' → K a' w') → if Region.wanted oi (yielded ops a.tmps) = true then Oper.wp P oi a w K Q else K (a.put oi.dst undef) w)
 (h2 : ∀ K : Act → World → Prop, (∀ a' w', (j ≠ L → S w') → wpAnyL P md ops Q S L fuel (listed.set j true).toArray a' w' → K a' w') → if Region.wanted oj (yielded ops a.tmps) = true then Oper.wp P oj a w K Q else K (a.put oj.dst undef) w) :
 wpAnyL P md ops Q S L (fuel + 1) listed.toArray a w := by
 refine ⟨fun h0 => absurd (hr ▸ h0) (by simp), fun x hx => ?_⟩
 rw [hr] at hx
 rcases List.mem_cons.1 hx with rfl | hx
 ·exact wpOp_step hi (fun K' hK => h1 K' (fun a' w' h1 h2 => hK a' w' ⟨h1, by simpa using h2⟩))
 ·obtain rfl : x = j := by simpa using hx
  exact wpOp_step hj (fun K' hK => h2 K' (fun a' w' h1 h2 => hK a' w' ⟨h1, by simpa using h2⟩))
theorem armRun {oi : Oper} {v : Value} {a : Act} {w w' : World} {K : Act → World → Prop} (hw : Region.wanted oi (yielded ops a.tmps) = true) (hrun : (execOp a.eval oi).run P w = .ok (.value v) w') (h : K (a.put oi.dst v) w') :
 if Region.wanted oi (yielded ops a.tmps) = true then Oper.wp P oi a w K Q else K (a.put oi.dst undef) w := by
 rw [if_pos hw]
 unfold Oper.wp
 rw [hrun]
 exact h
theorem armAppend {oi : Oper} {a : Act} {w : World} {K : Act → World → Prop} {s x : Operand} {t : TypeId} {v xv : Value} {R : Value → World → Prop} (hw : Region.wanted oi (yielded ops a.tmps) = true) (ho : oi.op = .call { callee := .builtin .append, args := #[s, x], argTypes := #[t, t] }) (hs : a.eval s = v) (hx : a.eval x = xv) (hc : ∃ v' w', (Builtin.append_ #[t, t] oi.type #[v, xv]).run P w = .ok v' w' ∧ R v' w')
 (h : ∀ v' w', R v' w' → K (a.put oi.dst v') w') : if Region.wanted oi (yielded ops a.tmps) = true then Oper.wp P oi a w K Q else K (a.put oi.dst undef) w := by
 rw [if_pos hw]
 obtain ⟨v', w', hrun, hR⟩ := hc
 have h1 := h v' w' hR
 unfold Oper.wp execOp
 simp only [ho, resolve, invoke, builtin, Sem.run_bind, Sem.run_pure, Result.andThen_ok, List.map_toArray, List.map_cons, List.map_nil, hs, hx, hrun]
 exact h1
theorem armCall {oi : Oper} {a : Act} {w : World} {K : Act → World → Prop} {f : FuncId} {fargs : Array Operand} {tys : Array TypeId} {args : Array Value} {R : Ending → World → Prop} (ho : oi.op = .call { callee := .value (.func f), args := fargs, argTypes := tys })
 (hw : Region.wanted oi (yielded ops a.tmps) = true) (he : ∀ args w, (callFunc f args).run P w = .ok (.enter f args) w) (hc : Calls P f args w R) (hargs : fargs.toList.map a.eval = args.toList)
 (h : ∀ e w', R e w' → ∃ v, e = .returned v ∧ K (a.put oi.dst v) w') : if Region.wanted oi (yielded ops a.tmps) = true then Oper.wp P oi a w K Q else K (a.put oi.dst undef) w := by
 rw [if_pos hw]
 have hev : a.eval (.func f) = .func (.func f) #[] #[] := rfl
 have hargs2 : fargs.map a.eval = args := by
  apply Array.toList_inj.1
  rw [Array.toList_map]; exact hargs
 unfold Oper.wp execOp
 simp only [ho, resolve, hev, hargs2, Sem.run_bind, Sem.run_pure, Result.andThen_ok]
 simp only [invoke, Array.empty_append, Array.append_empty]
 simp [go_sem, he]
 refine hc.mono ?_
 intro e w' hr'
 obtain ⟨v, rfl, h2⟩ := h e w' hr'
 exact h2
end
end
section
open Go.RowKit Go.Shelf
structure Two (w0 : World) (m cs : Nat) (B5 : Nat) (pc : Array Value) (v1 v2 v3 v4 : Value) (x : Auto) (W : World) : Prop where
 p : W.heap[w0.heap.size]? = some (.cells pc 27 (0, 0))
 r : W.heap[w0.heap.size + 1]? = some (.cells #[.slice none 0 0, .slice none 0 0, .slice none 0 0, .slice none 0 0] 34 (0, 0))
 b5 : W.heap[B5]? = some (.cells #[v1, v2, v3, v4] 34 (0, 0))
 first : Win intC 1 3 W v2 (fun i => w0.heap.size ≤ i ∧ i < m) x.first
 last : Win intC 1 3 W v3 (fun i => w0.heap.size ≤ i ∧ i < m) x.last
 follow : Win edgeC 7 123 W v4 (fun i => w0.heap.size ≤ i) x.follow
 apart : ∀ i, some i = v2.ownBlock → some i ≠ v3.ownBlock
 below : Below w0.heap.size w0 W
 size : cs ≤ W.heap.size
theorem Two.fr {w0 : World} {m cs B5 : Nat} {pc : Array Value} {v1 v2 v3 v4 : Value} {x : Auto} {W W' : World} {S : Nat → Prop} (h : Two w0 m cs B5 pc v1 v2 v3 v4 x W) (hf : Fr S W W')
 (hS : ∀ i, S i → w0.heap.size ≤ i ∧ i ≠ w0.heap.size ∧ i ≠ w0.heap.size + 1 ∧ i ≠ B5 ∧ ∀ cur T q, W.heap[i]? = some (.cells cur T q) → T ≠ 3 ∧ T ≠ 123) : Two w0 m cs B5 pc v1 v2 v3 v4 x W' := by
 have hl : ∀ {i o}, W.heap[i]? = some o → i < W.heap.size := fun h => (Array.getElem?_eq_some_iff.1 h).1
 refine ⟨(hf.block _ (hl h.p) fun hs => (hS _ hs).2.1 rfl).trans h.p, (hf.block _ (hl h.r) fun hs => (hS _ hs).2.2.1 rfl).trans h.r, (hf.block _ (hl h.b5) fun hs => (hS _ hs).2.2.2.1 rfl).trans h.b5, winC_away h.first hf fun i hi hs => ?_, winC_away h.last hf fun i hi hs => ?_, winC_away h.follow hf fun i hi hs => ?_, h.apart, h.below.trans (zO hf h.below.size fun i hi => (hS i hi).1), Nat.le_trans h.size hf.size⟩
 ·obtain ⟨_, cur, hg⟩ := win_own_type h.first i hi
  exact ((hS i hs).2.2.2.2 _ _ _ hg).1 rfl
 ·obtain ⟨_, cur, hg⟩ := win_own_type h.last i hi
  exact ((hS i hs).2.2.2.2 _ _ _ hg).1 rfl
 ·obtain ⟨_, cur, hg⟩ := win_own_type h.follow i hi
  exact ((hS i hs).2.2.2.2 _ _ _ hg).2 rfl
theorem Two.keep {w0 : World} {m cs B5 : Nat} {pc : Array Value} {v1 v2 v3 v4 : Value} {x : Auto} {W W' : World} (h : Two w0 m cs B5 pc v1 v2 v3 v4 x W) (hb : Below W.heap.size W W') : Two w0 m cs B5 pc v1 v2 v3 v4 x W' :=
 h.fr (S := fun _ => False) (zF hb) fun _ h => h.elim
theorem win_res {α : Type} {enc : α → List Value} {k e T : Nat} {w1 w2 w3 : World} {v : Value} {S : Nat → Prop} {xs : List α} {B R : Nat} {cs ds : Array Value} (h : Win enc k e w1 v S xs) (hx : w1.heap[B]? = some (.cells cs T (0, 0))) (hf : Fr (fun i => i = B) w1 w2) (hr : w2.heap[R]? = some (.cells ds T (0, 0))) (hg : Fr (fun i => i = R) w2 w3) (hT : e ≠ T) : Win enc k e w3 v S xs :=
 have h2 : Win enc k e w2 v S xs := winC_away h hf fun i hi => win_not_at h hx hT i hi
 winC_away h2 hg fun i hi => win_not_at h2 hr hT i hi
theorem win_skip {α β : Type} {enc : α → List Value} {enc' : β → List Value} {k e k' e' : Nat} {w1 w2 : World} {v u : Value} {S S' : Nat → Prop} {xs : List α} {ys : List β} (h : Win enc k e w1 v S xs) (g : Win enc' k' e' w1 u S' ys) (hT : e ≠ e') (hf : Fr (fun i => some i = u.ownBlock) w1 w2) : Win enc k e w2 v S xs :=
 winC_away h hf fun i hi hu => by
  obtain ⟨_, cur, hg⟩ := win_own_type h i hi
  obtain ⟨_, cur', hg'⟩ := win_own_type g i hu
  rw [hg] at hg'
  injection hg' with hg'
  injection hg' with _ hg'
  exact hT hg'
structure Dua (w0 : World) (m : Nat) (B5 B6 : Nat) (pc : Array Value) (v1 v2 v3 v4 y1 y2 y3 y4 : Value) (x y : Auto) (W : World) : Prop where
 two : Two w0 m m B5 pc v1 v2 v3 v4 x W
 b6 : W.heap[B6]? = some (.cells #[y1, y2, y3, y4] 34 (0, 0))
 yf : Win intC 1 3 W y2 (fun i => m ≤ i) y.first
 yl : Win intC 1 3 W y3 (fun i => m ≤ i) y.last
 ye : Win edgeC 7 123 W y4 (fun i => m ≤ i) y.follow
 yap : ∀ i, some i = y2.ownBlock → some i ≠ y3.ownBlock
theorem Dua.fr {w0 : World} {m B5 B6 : Nat} {pc : Array Value} {v1 v2 v3 v4 y1 y2 y3 y4 : Value} {x y : Auto} {W W' : World} {S : Nat → Prop} (h : Dua w0 m B5 B6 pc v1 v2 v3 v4 y1 y2 y3 y4 x y W) (hf : Fr S W W')
 (hS : ∀ i, S i → w0.heap.size ≤ i ∧ i ≠ w0.heap.size ∧ i ≠ w0.heap.size + 1 ∧ i ≠ B5 ∧ i ≠ B6 ∧ ∀ cur T q, W.heap[i]? = some (.cells cur T q) → T ≠ 3 ∧ T ≠ 123) : Dua w0 m B5 B6 pc v1 v2 v3 v4 y1 y2 y3 y4 x y W' := by
 have hl : ∀ {i o}, W.heap[i]? = some o → i < W.heap.size := fun h => (Array.getElem?_eq_some_iff.1 h).1
 refine ⟨h.two.fr hf fun i hi => ⟨(hS i hi).1, (hS i hi).2.1, (hS i hi).2.2.1, (hS i hi).2.2.2.1, (hS i hi).2.2.2.2.2⟩, (hf.block _ (hl h.b6) fun hs => (hS _ hs).2.2.2.2.1 rfl).trans h.b6, winC_away h.yf hf fun i hi hs => ?_, winC_away h.yl hf fun i hi hs => ?_, winC_away h.ye hf fun i hi hs => ?_, h.yap⟩
 ·obtain ⟨_, cur, hg⟩ := win_own_type h.yf i hi
  exact ((hS i hs).2.2.2.2.2 _ _ _ hg).1 rfl
 ·obtain ⟨_, cur, hg⟩ := win_own_type h.yl i hi
  exact ((hS i hs).2.2.2.2.2 _ _ _ hg).1 rfl
 ·obtain ⟨_, cur, hg⟩ := win_own_type h.ye i hi
  exact ((hS i hs).2.2.2.2.2 _ _ _ hg).2 rfl
theorem Dua.keep {w0 : World} {m B5 B6 : Nat} {pc : Array Value} {v1 v2 v3 v4 y1 y2 y3 y4 : Value} {x y : Auto} {W W' : World} (h : Dua w0 m B5 B6 pc v1 v2 v3 v4 y1 y2 y3 y4 x y W) (hb : Below W.heap.size W W') : Dua w0 m B5 B6 pc v1 v2 v3 v4 y1 y2 y3 y4 x y W' :=
 h.fr (S := fun _ => False) (zF hb) fun _ h => h.elim
theorem Dua.tests {w0 : World} {m B5 B6 : Nat} {pc : Array Value} {v1 v2 v3 v4 y1 y2 y3 y4 u : Value} {x y : Auto} {W W' : World} {ts : List Test} (h : Dua w0 m B5 B6 pc v1 v2 v3 v4 y1 y2 y3 y4 x y W) (hx : Win Test.cells 3 24 W u (fun i => w0.heap.size ≤ i ∧ i < m) ts)
 (hf : Fr (fun i => some i = u.ownBlock) W W') : Dua w0 m B5 B6 pc v1 v2 v3 v4 y1 y2 y3 y4 x y W' :=
 h.fr hf fun i hi => by
  obtain ⟨hl, cur, hg⟩ := win_own_type hx i hi
  refine ⟨hl.1, win_not_at hx h.two.p (by decide) i hi, win_not_at hx h.two.r (by decide) i hi, win_not_at hx h.two.b5 (by decide) i hi, win_not_at hx h.b6 (by decide) i hi, fun cur' T q h' => ?_⟩
  rw [hg] at h'
  injection h' with h'
  injection h' with _ h'
  subst h'
  exact ⟨by decide, by decide⟩
theorem Dua.cat {w0 : World} {m B5 B6 : Nat} {pc : Array Value} {v1 v2 v3 v4 y1 y2 y3 y4 : Value} {x y : Auto} {W W' : World} (h : Dua w0 m B5 B6 pc v1 v2 v3 v4 y1 y2 y3 y4 x y W) (hf : Fr (fun i => some i = v2.ownBlock) W W') :
 W'.heap[w0.heap.size + 1]? = some (.cells #[.slice none 0 0, .slice none 0 0, .slice none 0 0, .slice none 0 0] 34 (0, 0)) ∧ W'.heap[B5]? = some (.cells #[v1, v2, v3, v4] 34 (0, 0)) ∧ W'.heap[B6]? = some (.cells #[y1, y2, y3, y4] 34 (0, 0)) ∧ Win intC 1 3 W' v3 (fun i => w0.heap.size ≤ i ∧ i < m) x.last ∧ Win intC 1 3 W' y3 (fun i => m ≤ i) y.last ∧ Below w0.heap.size w0 W' := by
 have hl : ∀ {i o}, W.heap[i]? = some o → i < W.heap.size := fun h => (Array.getElem?_eq_some_iff.1 h).1
 refine ⟨(hf.block _ (hl h.two.r) fun hs => win_not_at h.two.first h.two.r (by decide) _ hs rfl).trans h.two.r, (hf.block _ (hl h.two.b5) fun hs => win_not_at h.two.first h.two.b5 (by decide) _ hs rfl).trans h.two.b5, (hf.block _ (hl h.b6) fun hs => win_not_at h.two.first h.b6 (by decide) _ hs rfl).trans h.b6, winC_away h.two.last hf fun i hi hs => h.two.apart i hs hi, winC_away h.yl hf fun i hi hs => ?_, h.two.below.trans (zO hf h.two.below.size fun i hi => (winC_ob h.two.first i hi).1.1)⟩
 have h1 := (winC_ob h.two.first i hs).1.2
 have h2 := (winC_ob h.yl i hi).1
 omega
theorem Dua.store {w0 : World} {m B5 B6 B : Nat} {pc cs : Array Value} {v1 v2 v3 v4 y1 y2 y3 y4 : Value} {x y : Auto} {W W' : World} (h : Dua w0 m B5 B6 pc v1 v2 v3 v4 y1 y2 y3 y4 x y W) (hB : W.heap[B]? = some (.cells cs 34 (0, 0)))
 (hf : Fr (fun i => i = B) W W') (h5 : B5 < B) (h6 : B6 < B) (h0 : w0.heap.size + 1 < B) : Dua w0 m B5 B6 pc v1 v2 v3 v4 y1 y2 y3 y4 x y W' :=
 h.fr hf fun i hi => by
  have e : i = B := hi
  subst e
  refine ⟨by omega, by omega, by omega, by omega, by omega, fun cur' T q h' => ?_⟩
  rw [hB] at h'
  injection h' with h'
  injection h' with _ h'
  subst h'
  exact ⟨by decide, by decide⟩
end
section
open Go.RowKit Go.Shelf
set_option maxHeartbeats 32000000 in
theorem refAuto_many (lo : Nat) (fa : Form) (n o1 n1 : Int) (t t1 : Test) (k1 : Pats) (hA : KidR lo fa o1 t1 n1 k1) : KidR lo (.many n fa) 4 t n (.cons o1 t1 n1 k1 .nil) := by
 intro w u k hk hlo h0 hk12 hfs hes
 obtain ⟨a, c, rfl, hc1, hc2, h3⟩ := hk
 obtain ⟨b, o, rfl, hbw, ⟨⟨d0, d1, d2, d3, d4⟩, ⟨a1, c1, d5, g1, g2, g3⟩, _⟩⟩ := h3 (by simp [Pats.len])
 have hk1 : RdKB lo w k1 (.slice a1 k1.len c1) := ⟨a1, c1, rfl, g1, g2, g3⟩
 obtain ⟨ts, tlo, thi⟩ := t
 obtain ⟨t1s, t1l, t1h⟩ := t1
 simp only [makeP, fsize] at hk12 hfs hes
 dsimp only [patA, Pats.len] at *
 have HA := zH hA
 have HK := zH hk1
 have HE := zH hes
 obtain ⟨au, hau⟩ : ∃ au, au = autoR (.many n fa) k := ⟨_, rfl⟩
 rw [← hau]
 have HAU := zH hau
 have al2 := fun o o' => ((Below.refl w.heap.size w).alloc (Nat.le_refl _) o).alloc (by simp) o'
 have e0 := fun x y => zB (al2 x y) d0
 have e1 := fun x y => zB (al2 x y) d1
 have e2 := fun x y => zB (al2 x y) d2
 have e3 := fun x y => zB (al2 x y) d3
 have e4 := fun x y => zB (al2 x y) d4
 have e5 := fun x y => zB (al2 x y) d5
 have HD := zH (zA d0 (zA d1 (zA d2 (zA d3 (zA d4 d5)))))
 clear d0 d1 d2 d3 d4 d5 al2 hk1 hA hc1 hc2 h3 g1 g2 g3 hes hau e0 e1 e2 e3 e4 e5
 go_enter Tryz.func149, Tryz.ntmps149
 go_upto_if 10 with fail
 refine named_box2 (G := fun W => Code.wp _ _ _ _ W) w _ _ _ _ fun W1 hb1 hz1 hx1 hy1 => ?_
 have k5 : W1.cell? ⟨w.heap.size, 5, none⟩ = some (.slice (some ⟨b, o, none⟩) 1 c) := zC hx1 5
 have e0 := zB hb1 HD.out.1
 have e1 := zB hb1 HD.out.2.1
 have e2 := zB hb1 HD.out.2.2.1
 have e3 := zB hb1 HD.out.2.2.2.1
 have e4 := zB hb1 HD.out.2.2.2.2.1
 have e5 := zB hb1 HD.out.2.2.2.2.2
 have hz1' : W1.heap.size = w.heap.size + 2 := hz1
 have H1 := zH (zA hb1 (zA hx1 hy1))
 clear hb1 hx1 hy1 hz1
 go_upto_if 27 with (go_at_call 149; refine (HA.out W1 (.slice a1 k1.len c1) k (HK.out.keep (H1.out.1.mono hlo)) (by omega) h0 hk12 (by omega) (fun e he => HE.out e (List.mem_append_left _ he))).mono ?_; rintro e w2 ⟨_, _, _, _, rfl, hau, hb2⟩; obtain ⟨A1, C1, rfl, _, _⟩ := zS hau.tests; obtain ⟨A2, C2, rfl, _, _⟩ := zS hau.first; obtain ⟨A3, C3, rfl, _, _⟩ := zS hau.last; obtain ⟨A4, C4, rfl, _, _⟩ := zS hau.follow; have hx2 := (hb2.block w.heap.size (by omega)).trans H1.out.2.1; have b0 : w2.cell? ⟨w.heap.size, 0, none⟩ = some (.int .i64 4) := zC hx2 0; have b0' := (fun o => zB ((Below.refl w2.heap.size w2).alloc (Nat.le_refl _) o) b0); have H2 := zH (zA hau (zA hb2 hx2)); have hs2 := hb2.size; clear hau hb2 hx2 k5 e0 e1 e2 e3 e4 e5)
 clear b0'
 refine zX (G := fun W => Code.wp _ _ _ _ W) w2 _ _ fun W3 hb3 hz3 hx3 => ?_
 obtain ⟨hau, hb2, hx2⟩ := H2.out
 have hs3 := hb3.size
 have hx2' := (hb3.block w.heap.size (by omega)).trans hx2
 have hr3 := (hb3.block (w.heap.size + 1) (by omega)).trans ((hb2.block (w.heap.size + 1) (by omega)).trans H1.out.2.2)
 have hau3 := hau.below hb3
 have hbw3 : Below w.heap.size w W3 := H1.out.1.trans ((hb2.mono (by omega)).trans (hb3.mono (by omega)))
 have c0 : W3.cell? ⟨w.heap.size, 0, none⟩ = some (.int .i64 4) := zC hx2' 0
 have c1 : W3.cell? ⟨w.heap.size, 1, none⟩ = some (.int .i64 ts) := zC hx2' 1
 have c2 : W3.cell? ⟨w.heap.size, 2, none⟩ = some (.int .i64 tlo) := zC hx2' 2
 have c3 : W3.cell? ⟨w.heap.size, 3, none⟩ = some (.int .i64 thi) := zC hx2' 3
 have c4 : W3.cell? ⟨w.heap.size, 4, none⟩ = some (.int .i64 n) := zC hx2' 4
 have c5 : W3.cell? ⟨w.heap.size, 5, none⟩ = some (.slice (some ⟨b, o, none⟩) 1 c) := zC hx2' 5
 have m1 : W3.cell? ⟨w2.heap.size, 1, none⟩ = some (.slice A2 (autoR fa k).first.length C2) := zC hx3 1
 have m2 : W3.cell? ⟨w2.heap.size, 2, none⟩ = some (.slice A3 (autoR fa k).last.length C3) := zC hx3 2
 have m3 : W3.cell? ⟨w2.heap.size, 3, none⟩ = some (.slice A4 (autoR fa k).follow.length C4) := zC hx3 3
 have hxe := makeP_ends fa k
 have hen : (autoR fa k).first.length ≤ 12 ∧ (autoR fa k).last.length ≤ 12 := by rw [autoR_first, autoR_last]; omega
 have hlm : ∀ e ∈ linkE n none (autoR fa k).last (autoR fa k).first, edgeSm e := fun e he => HE.out e (by rw [autoR_last, autoR_first] at he; exact List.mem_append_right _ he)
 have hcall := refLinked_any (.slice A4 (autoR fa k).follow.length C4) (.slice A3 (autoR fa k).last.length C3) (.slice A2 (autoR fa k).first.length C2) (.slice (some ⟨b, o, none⟩) 1 c) _ (autoR fa k).follow 4 n ⟨ts, tlo, thi⟩ .nil none (autoR fa k).last (autoR fa k).first W3 hau3.follow (win_rd intC_len hau3.last) (win_rd intC_len hau3.first) (.inl ⟨rfl, rfl⟩) (fun e he => HE.out e (List.mem_append_left _ (autoR_mem he))) hlm (by have := autoR_len (f := fa) k (by omega); omega) hen.2 hen.1
 have HCALL := zH hcall
 have H3 := zH (zA hau3 (zA hbw3 (zA hx3 hr3)))
 have hz3' : W3.heap.size = w2.heap.size + 1 := hz3
 clear hau hb2 hx2 hx2' hr3 hau3 hbw3 hx3 hz3 hcall hlm hxe hb3 b0
 go_wp2_with (go_at_call 209; refine HCALL.out.mono ?_; rintro e we ⟨_, rfl, hz5, hbe⟩; obtain ⟨A5, C5, rfl, _, _⟩ := zS hz5; have hx9 := (hbe.block w2.heap.size (by omega)).trans H3.out.2.2.1; have hr9 := (hbe.block _ (by omega)).trans H3.out.2.2.2; have hxs := setCell_blk (o := 3) hx9 (.slice A5 ((linkE n none (autoR fa k).last (autoR fa k).first).foldl (putO edgeOrd) (autoR fa k).follow).length C5); have hfs := fr_setCell we ⟨w2.heap.size, 3, none⟩ (.slice A5 ((linkE n none (autoR fa k).last (autoR fa k).first).foldl (putO edgeOrd) (autoR fa k).follow).length C5); have hne : w.heap.size + 1 ≠ w2.heap.size := (by omega); have hrs := (hfs.block _ (Array.getElem?_eq_some_iff.1 hr9).1 hne).trans hr9; have s3 := zC hx9 3; have f3 := zK hx9 3; have s0 := zC hxs 0; have s1 := zC hxs 1; have s2 := zC hxs 2; have s4 := zC hxs 3; have r0 := zC hrs 0; have r1 := zC hrs 1; have r2 := zC hrs 2; have r3 := zC hrs 3; have fr0 := zK hrs 0; have fr1 := zK hrs 1; have fr2 := zK hrs 2; have fr3 := zK hrs 3; have hp4 := put4 hrs (.slice A1 (autoR fa k).tests.length C1) (.slice A2 (autoR fa k).first.length C2) (.slice A3 (autoR fa k).last.length C3) (.slice A5 ((linkE n none (autoR fa k).last (autoR fa k).first).foldl (putO edgeOrd) (autoR fa k).follow).length C5); simp only [List.getElem?_toArray, List.getElem?_cons_zero, List.getElem?_cons_succ, List.setIfInBounds_toArray, List.set_cons_zero, List.set_cons_succ] at s0 s1 s2 s3 s4 r0 r1 r2 r3; have H9 := zH (zA hz5 (zA hbe (zA hx9 (zA hfs (zA hrs hp4))))); clear hz5 hbe hx9 hr9 hxs hfs hrs hp4 c0 c1 c2 c3 c4 c5 m1 m2 m3)
 obtain ⟨hz5, hbe, hx9, hfs, hrs, hp4⟩ := H9.out
 have g0 := zC hp4.1 0
 have g1 := zC hp4.1 1
 have g2 := zC hp4.1 2
 have g3 := zC hp4.1 3
 simp only [List.getElem?_toArray, List.getElem?_cons_zero, List.getElem?_cons_succ] at g0 g1 g2 g3
 refine bodyPost_ret (v := .agg #[(.slice A1 (autoR fa k).tests.length C1), (.slice A2 (autoR fa k).first.length C2), (.slice A3 (autoR fa k).last.length C3), (.slice A5 ((linkE n none (autoR fa k).last (autoR fa k).first).foldl (putO edgeOrd) (autoR fa k).follow).length C5)]) (by simp [results, Tryz.results149, go_sem, g0, g1, g2, g3]) rfl ⟨_, _, _, _, rfl, ?_, ?_⟩
 ·rw [HAU.out]
  have mv : ∀ {α : Type} {enc : α → List Value} {k e : Nat} {v : Value} {S : Nat → Prop} {xs : List α}, Win enc k e W3 v S xs → Win enc k e we v S xs := fun h => zM h (zF (S := fun _ => False) hbe) (fun _ _ h => h)
  exact ⟨zN (win_res (mv H3.out.1.tests) hx9 hfs hrs hp4.2 (by decide)) fun i hi => by omega, zN (win_res (mv H3.out.1.first) hx9 hfs hrs hp4.2 (by decide)) fun i hi => by omega, zN (win_res (mv H3.out.1.last) hx9 hfs hrs hp4.2 (by decide)) fun i hi => by omega, zN (win_res hz5 hx9 hfs hrs hp4.2 (by decide)) fun i hi => by omega, H3.out.1.apart⟩
 ·have h1 := H3.out.2.1.trans (hbe.mono H3.out.2.1.size)
  have h2 := h1.trans (zO hfs h1.size fun i hi => by have h : i = w2.heap.size := hi; omega)
  exact h2.trans (zO hp4.2 h2.size fun i hi => by have h : i = w.heap.size + 1 := hi; omega)
end
end Go.Proofs.YtgiploddoffmjaaGreat
