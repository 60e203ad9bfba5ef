/- My texts, joined: W0, Base11, W35, W85, H0, W94, W86, W93, H2, H3, W95, W96, W97, N27, N28, W61, W65, V2. -/
import Derived.Below
import Derived.BigQuiet
import Derived.ChangeKeysEq
import Derived.Deep.AppendLies
import Derived.Deep.CutBlock
import Derived.Deep.DeepCutAuto
import Derived.Deep.LoopGhost
import Derived.Deep.QuietTactic
import Derived.Deep.RegionHeld
import Derived.Deep.RegionHeld3
import Derived.Deep.RegionLaw
import Derived.Deep.Slices
import Derived.Defers
import Derived.Ground.Names2Prog
import Derived.Ground.Names8Prog
import Derived.Ground.SlsfProg
import Derived.Handy
import Derived.KernelRfl
import Derived.Laws.AppendOwn
import Derived.Laws.AppendOwnNone
import Derived.Laws.CopyRow
import Derived.Laws.Pointers
import Derived.Laws.StructEq
import Derived.Lib.Hide
import Derived.Lib.LaidU8
import Derived.Lib.Overlaps
import Derived.Lib.SmallJoins
import Derived.LoopIn
import Derived.LoopN
import Derived.LoopNIn
import Derived.LoopTactic
import Derived.MapKept
import Derived.Maps.AppendAt
import Derived.Maps.OwnOps
import Derived.Maps.RangeRun
import Derived.Maps.RangeWalk
import Derived.Outline
import Derived.OwnWalk
import Derived.OwnWalkIn
import Derived.ProofKit
import Derived.RangeFuncBound
import Derived.RangeFuncCalls
import Derived.RangeFuncLeaves
import Derived.RangeFuncNested
import Derived.Recover
import Derived.Shelf.Abstract
import Derived.Shelf.RegionOpen
import Derived.Shelf.SlGeneric
import Derived.Shelf.SlLaysF0
import Derived.Shelf.SlSortCmp.HeapSort1
import Derived.Shelf.SlSortCmp.Insertion
import Derived.Shelf.SlSortCmp.Insertion1
import Derived.Shelf.SlSortCmp.Median1
import Derived.Shelf.SlSortCmp.NoneTotal
import Derived.Shelf.SlSortCmp.PartialInsertion1
import Derived.Shelf.SlSortCmp.Partition1
import Derived.Shelf.SlSortCmp.PartitionEqual1
import Derived.Shelf.SlSortCmp.Pdq1
import Derived.Shelf.SlSortCmp.Pivot1
import Derived.Shelf.SlSortCmp.ReverseRange1
import Derived.Shelf.SlSortCmp.SiftDown1
import Derived.Shelf.SlSortCmp.Whole1
import Derived.Shelf.SlSortCmp.WholeK
import Derived.Shelf.Slices.In.SortNone
import Derived.Shelf.Small.Bits
import Derived.Shelf.Sort.Plain
import Derived.Shelf.Spec.SlicesGrow
import Derived.TacticsInMore
import Derived.Test.YtgiploddoffmjaaGreatProg
import Derived.WalkKit
import Derived.WalkLawsBesides
import Derived.WalkSpells
import Derived.Test.YtgiploddoffmjaaGreatM0
import Derived.Test.YtgiploddoffmjaaGreatM1
import Derived.Test.YtgiploddoffmjaaGreatM2
import Derived.Test.YtgiploddoffmjaaGreatM3
import Derived.Test.YtgiploddoffmjaaGreatM4
import Derived.Test.YtgiploddoffmjaaGreatM5
import Derived.Test.YtgiploddoffmjaaGreatM6
import Derived.Test.YtgiploddoffmjaaGreatM7
import Derived.Test.YtgiploddoffmjaaGreatM8
import Derived.Test.YtgiploddoffmjaaGreatM9
import Derived.Test.YtgiploddoffmjaaGreatM10
import Derived.Test.YtgiploddoffmjaaGreatM11
import Derived.Test.YtgiploddoffmjaaGreatM12
import Derived.Test.YtgiploddoffmjaaGreatM13
import Derived.Test.YtgiploddoffmjaaGreatM14
import Derived.Test.YtgiploddoffmjaaGreatM15
import Derived.Test.YtgiploddoffmjaaGreatM16
import Derived.Test.YtgiploddoffmjaaGreatM17
import Derived.Test.YtgiploddoffmjaaGreatM18
import Derived.Test.YtgiploddoffmjaaGreatM19
import Derived.Test.YtgiploddoffmjaaGreatM20
import Derived.Test.YtgiploddoffmjaaGreatM21
import Derived.Test.YtgiploddoffmjaaGreatM22
import Derived.Test.YtgiploddoffmjaaGreatM23
import Derived.Test.YtgiploddoffmjaaGreatM24
import Derived.Test.YtgiploddoffmjaaGreatM25
import Derived.Test.YtgiploddoffmjaaGreatM26
import Derived.Test.YtgiploddoffmjaaGreatM27
import Derived.Test.YtgiploddoffmjaaGreatM28
set_option linter.unusedVariables false
set_option linter.unusedSimpArgs false
set_option linter.unusedSectionVars false
set_option maxRecDepth 10000
namespace Go.Proofs.YtgiploddoffmjaaGreat
section
open Go.RowKit
theorem test_len (t : Test) : t.cells.length = 3 := rfl
end
section
open Go.RowKit
section
variable {P : Program} {md : Region.Mode} {ops : Array Oper} {Q : Exit → Act → World → Prop} {S : World → Prop}
theorem runW (skip : List Nat) {i : Nat} {oi : Oper} {v : Value} {fuel : Nat} {listed : List Bool} {a : Act} {w w' : World} (hn : nxt skip listed 0 = i) (hi : ops[i]? = some oi) (hr : Region.ready md ops listed.toArray = [i])
 (hw : Region.wanted oi (yielded ops a.tmps) = true) (hrun : (execOp a.eval oi).run P w = .ok (.value v) w') (hS : S w') (h : S w' → wpAnyH P md ops Q S fuel (listed.set i true).toArray (a.put oi.dst v) w') : wpAnyH P md ops Q S (fuel + 1) listed.toArray a w := by
 refine wpAnyH_ready hr (by simp) (AllReadyH.cons hi (fun K hK => ?_) AllReadyH.nil)
 rw [if_pos hw]
 unfold Oper.wp
 rw [hrun]
 exact hK.out _ _ hS (fun hS => by rw [List.setIfInBounds_toArray]; exact h hS)
theorem runA (skip : List Nat) {i : Nat} {oi : Oper} {v : Value} {fuel : Nat} {listed l' : List Bool} {a a' : Act} {w w' : World}
 (hn : nxt skip listed 0 = i := by simp only [nxt, List.contains_cons, List.contains_nil, Bool.or_false, Bool.or_self, Bool.true_or, cond_true, cond_false, Nat.zero_add, Nat.reduceAdd, Nat.reduceBEq, Bool.false_or]; rfl)
 (hi : ops[i]? = some oi := by rfl) (hr : Region.ready md ops listed.toArray = [i] := by kernel_rfl) (hw : Region.wanted oi (yielded ops a.tmps) = true := by rfl)
 (hrun : (execOp a.eval oi).run P w = .ok (.value v) w' := by first | (go_simp; done) | (go_simp; with_reducible rfl) | (go_simp; constructor <;> with_reducible rfl)) (hp : a.put oi.dst v = a' := by simp only [Act.put, List.getElem_toArray, List.getElem_cons_zero, List.getElem_cons_succ, List.setIfInBounds_toArray, List.set_cons_zero, List.set_cons_succ]; rfl) (hl : listed.set i true = l' := by simp only [List.set_cons_zero, List.set_cons_succ]; rfl)
 (hS : S w') (h : S w' → wpAnyH P md ops Q S fuel l'.toArray a' w') : wpAnyH P md ops Q S (fuel + 1) listed.toArray a w := by
 subst hp; subst hl
 exact runW skip hn hi hr hw hrun hS h
end
end
section
open Go.RowKit Go.Shelf
theorem rows_has (G : FuncId) (caps : Array Value) (q : Row → Bool) (v : Value) (gs : List Row) (w : World) (hr : Rd rowC 1 w v gs) (hf : ∀ p ∈ gs, ∃ a c, p.1 = .slice a p.2.length c) (he : ∀ args w, (callFunc G args).run Tryz.prog w = .ok (.enter G args) w)
 (hp : ∀ W p, p ∈ gs → Below w.heap.size w W → Calls Tryz.prog G (#[p.1] ++ caps) W fun e w' => e = .returned (.bool (q p)) ∧ Below W.heap.size W w') :
 Calls Tryz.prog 26 #[v, .func (.func G) #[] caps] w fun e w' => e = .returned (.bool (gs.any q)) ∧ Below w.heap.size w w' := by
 have HI := zH (rows_idx G caps q v gs w hr hf he hp)
 have ha := idxFrom_any q gs 0
 have HA := zH ha
 clear ha hr hp he hf
 generalize idxFrom q gs 0 = r at *
 go_enter Tryz.func26, Tryz.ntmps26
 go_wp2_with (go_at_call 104; refine HI.out.mono ?_; rintro e w2 ⟨rfl, hb2⟩)
 go_ret
 exact ⟨ret_bool HA.out, hb2⟩
end
section
open Go.RowKit Go.Shelf
set_option maxHeartbeats 4000000
def orN (a b : Node) : Node := ⟨3, zeroT, 0, .cons a.op a.t a.n a.ks (.cons b.op b.t b.n b.ks .nil)⟩
theorem or_law (x y : Node) (va vb : Value) (w : World) (hx : RdK w x.ks va) (hy : RdK w y.ks vb) : Calls Tryz.prog 40 #[.agg (patA x va), .agg (patA y vb)] w fun e w' => ∃ v, e = .returned (.agg (patA (orN x y) v)) ∧ RdK w' (orN x y).ks v ∧ Below w.heap.size w w' := by
 have HS := zH (zA hx hy)
 clear hx hy
 go_enter Tryz.func40, Tryz.ntmps40
 go_wp2
 refine bodyPost_ret (v := .agg (patA (orN x y) (.slice (some ⟨w.heap.size + 1 + 1 + 1, 0, none⟩) 2 2))) (by simp [results, Tryz.results40, go_sem]; exact ⟨rfl, rfl, rfl, rfl, rfl⟩) rfl ?_
 have hb := below4 w
 refine ⟨_, rfl, kids_box 27 [(x, va), (y, vb)] _ 2 _ (heap_last4 w _ _ _ _) (fun i p hp j u hu => ?_) rfl (by decide) ?_, below4 w _ _ _ _⟩
 ·match i, hp with
  | 0, hp => cases hp; match j, hu with | 0, hu | 1, hu | 2, hu | 3, hu | 4, hu | 5, hu => exact hu
  | 1, hp => cases hp; match j, hu with | 0, hu | 1, hu | 2, hu | 3, hu | 4, hu | 5, hu => exact hu
 ·intro p hp
  rcases List.mem_cons.1 hp with rfl | hp
  ·exact HS.out.1.below (below4 w _ _ _ _)
  ·rcases List.mem_cons.1 hp with rfl | hp
   ·exact HS.out.2.below (below4 w _ _ _ _)
   ·cases hp
end
section
open Go.ChangeShapes Go.WideShapes Go.RowKit Go.Joins Go.Deep
theorem Tryz.ucells76 : Tryz.prog.cellsOf 76 = 5 := by kernel_rfl
theorem Tryz.ucells74 : Tryz.prog.cellsOf 74 = 3 := by kernel_rfl
end
section
open Go.RowKit Go.Shelf
def SlOk (v : Value) : Prop := ∀ a n c, v = .slice a n c → n ≤ c
theorem SlOk.le {a : Option Addr} {n c : Nat} (h : SlOk (.slice a n c)) : n ≤ c := h _ _ _ rfl
end
section
open Go.RowKit Go.Shelf
theorem alloc_at (w : World) (o : Obj) : (w.alloc o).heap[w.heap.size]? = some o := heap_alloc_new w o
end
section
open Go.RowKit Go.Shelf
def fitL (xs : List Int) : Prop := ∀ z ∈ xs, -9223372036854775808 ≤ z ∧ z ≤ 9223372036854775807
theorem wrap_ne {a b : Int} (ha : -9223372036854775808 ≤ a ∧ a ≤ 9223372036854775807) (hb : -9223372036854775808 ≤ b ∧ b ≤ 9223372036854775807) (h : a ≠ b) : IntKind.i64.wrap (a - b) ≠ 0 := by
 have e : IntKind.i64.wrap (a - b) = wrap64 (a - b) := Go.IntWalk.i64_left _
 rw [e]
 unfold wrap64
 omega
set_option maxHeartbeats 4000000 in
theorem refOrder_eq (v1 v2 : Value) (xs ys : List Int) (w : World) (h1 : Rd intC 1 w v1 xs) (h2 : Rd intC 1 w v2 ys) (s1 : fitL xs) (s2 : fitL ys) :
 Calls Tryz.prog 28 #[v1, v2] w fun e w' => ∃ o, e = .returned (.int .i64 o) ∧ (o = 0 ↔ xs = ys) ∧ Below w.heap.size w w' := by
 obtain ⟨a1, c1, rfl⟩ : ∃ a c, v1 = .slice a xs.length c := by obtain ⟨_, a, c, rfl, _⟩ := h1; exact ⟨a, c, rfl⟩
 obtain ⟨a2, c2, rfl⟩ : ∃ a c, v2 = .slice a ys.length c := by obtain ⟨_, a, c, rfl, _⟩ := h2; exact ⟨a, c, rfl⟩
 have l1 := h1.1
 have l2 := h2.1
 have R1 := zH h1
 have R2 := zH h2
 have S1 := zH s1
 have S2 := zH s2
 clear h1 h2 s1 s2
 go_enter Tryz.func28, Tryz.ntmps28
 go_wp2
 go_loopw [5] (fun i W => ∃ n : Nat, i = .int .i64 n ∧ n ≤ xs.length ∧ n ≤ ys.length ∧ xs.take n = ys.take n ∧ Below w.heap.size w W) (fun i _ => xs.length - (intOf i).toNat)
 case atStart => exact ⟨0, rfl, by omega, by omega, rfl, Below.refl _ _⟩
 case round =>
  obtain ⟨n, rfl, hn1, hn2, ho, hB⟩ := hrel
  by_cases hx1 : n < xs.length
  ·by_cases hy1 : n < ys.length
   ·have hx := List.getElem?_eq_getElem hx1
    have hy := List.getElem?_eq_getElem hy1
    have mx : xs[n] ∈ xs := List.getElem_mem hx1
    have my : ys[n] ∈ ys := List.getElem_mem hy1
    generalize xs[n] = x at hx mx
    generalize ys[n] = y at hy my
    have bx := S1.out x mx
    have by_ := S2.out y my
    obtain ⟨b1, o1, rfl, _, hc1⟩ := rd_at (R1.out.below hB) hx
    obtain ⟨b2, o2, rfl, _, hc2⟩ := rd_at (R2.out.below hB) hy
    have q1 : wr.cell? ⟨b1, o1 + n * 1, none⟩ = some (.int .i64 x) := hc1 0 _ rfl
    have q2 : wr.cell? ⟨b2, o2 + n * 1, none⟩ = some (.int .i64 y) := hc2 0 _ rfl
    rw [Nat.mul_one] at q1 q2
    obtain ⟨d, hwd⟩ : ∃ d, IntKind.i64.wrap (x - y) = d := ⟨_, rfl⟩
    have HW := zH (show x ≠ y → d ≠ 0 from fun h => by rw [← hwd]; exact wrap_ne bx by_ h)
    have HO := zH (zA hx (zA hy (zA ho hB)))
    clear hc1 hc2 hx hy mx my ho hB bx by_
    by_cases hxy : x = y
    ·have hd : (x != y) = false := by simp [hxy]
     have HE := zH hxy
     clear hxy
     go_wp2
     go_quiet (fail)
     go_wp2
     go_roundw
     case rel => exact ⟨n + 1, by go_num, by omega, by omega, by rw [List.take_add_one, List.take_add_one, HO.out.2.2.1, HO.out.1, HO.out.2.1, HE.out], below_drewN HO.out.2.2.2 _⟩
     case measure => simp [intOf]; omega
    ·have hd : (x != y) = true := by simp [hxy]
     have HE := zH hxy
     clear hxy
     go_wp2
     go_quiet (fail)
     go_wp2
     go_quiet (fail)
     go_wp2
     go_ret
     refine ⟨_, rfl, ⟨fun h => absurd h (HW.out HE.out), fun h => ?_⟩, below_drewN (below_drewN HO.out.2.2.2 _) _⟩
     have e1 := HO.out.1
     rw [h, HO.out.2.1] at e1
     injection e1 with e1
     exact absurd e1.symm HE.out
   ·have hyl : n = ys.length := by omega
    have hwl : IntKind.i64.wrap ((xs.length : Int) - (ys.length : Int)) = (xs.length : Int) - ys.length := Go.IntWalk.i64_in _ (by omega)
    have HV := zH (zA hyl (zA ho hB))
    have n1 : ¬ (n : Int) < (ys.length : Int) := by omega
    have n2 : (n : Int) < (xs.length : Int) := by omega
    clear hyl ho hB
    go_wp2
    go_ret
    refine ⟨_, rfl, ⟨fun h => ?_, fun h => by have := HV.out.1; rw [h] at hx1; omega⟩, HV.out.2.2⟩
    have := HV.out.1
    omega
  ·have hxl : n = xs.length := by omega
   have hwl : IntKind.i64.wrap ((xs.length : Int) - (ys.length : Int)) = (xs.length : Int) - ys.length := Go.IntWalk.i64_in _ (by omega)
   have HV := zH (zA hxl (zA ho hB))
   have n2 : ¬ (n : Int) < (xs.length : Int) := by omega
   clear hxl ho hB
   go_wp2
   go_ret
   refine ⟨_, rfl, ⟨fun h => ?_, fun h => by rw [h]; omega⟩, HV.out.2.2⟩
   have h2 := HV.out.2.1
   have h3 := HV.out.1
   rw [List.take_of_length_le (by omega), List.take_of_length_le (by omega)] at h2
   exact h2
end
section
open Go.ChangeShapes Go.WideShapes Go.RowKit Go.Joins Go.Deep
section
variable {H : Type} {enc : TypeId × Value → H} {w : World} {base : Nat} {spare : Nat → Bool} {held : Bool}
set_option maxRecDepth 100000 in
theorem open_ev_cells {n : Nat} {cs : List Value} {x : DataW H × List MemPlace} (h : DataW.trod enc Tryz.prog w base spare held n 76 cs = some x) : ∃ e : Ev, cs = e.cells := by
 obtain ⟨y0, y1, y2, m, _, hlen, h0, h1, h2⟩ := trod_struct3 Tryz.underlying76 h
 rw [Tryz.ucells76] at hlen
 match cs, hlen with
 | [c0, c1, c2, c3, c4], _ =>
  simp only [Tryz.ucells3, Tryz.ucells74, List.drop_zero, List.drop_succ_cons, List.take_succ_cons, List.take_zero] at h0 h1 h2
  obtain ⟨a, e0, _, _⟩ := DataW.trod_int Tryz.underlying3 h0
  obtain ⟨b, e1, _, _⟩ := DataW.trod_int Tryz.underlying3 h1
  obtain ⟨z0, z1, z2, m', _, _, k0, k1, k2⟩ := trod_struct3 Tryz.underlying74 h2
  simp only [Tryz.ucells3, List.drop_zero, List.drop_succ_cons, List.take_succ_cons, List.take_zero] at k0 k1 k2
  obtain ⟨c, e2, _, _⟩ := DataW.trod_int Tryz.underlying3 k0
  obtain ⟨d, e3, _, _⟩ := DataW.trod_int Tryz.underlying3 k1
  obtain ⟨e, e4, _, _⟩ := DataW.trod_int Tryz.underlying3 k2
  simp at e0 e1 e2 e3 e4
  subst e0 e1 e2 e3 e4
  exact ⟨⟨a, b, c, d, e⟩, rfl⟩
theorem open_list {α : Type} [Inhabited α] {cel : α → List Value} {k : Nat} {P : α → Prop} (hk0 : 0 < k) (hk : ∀ x, (cel x).length = k) {t e : TypeId} (ht : Tryz.prog.underlying t = some (.slice e)) (hc : Tryz.prog.cellsOf e = k)
 (hel : ∀ (n : Nat) (cs : List Value) (x : DataW H × List MemPlace), DataW.trod enc Tryz.prog w base spare held n e cs = some x → ∃ a, cs = cel a ∧ P a) {fuel : Nat} {v : Value} {x : DataW H × List MemPlace} (h : DataW.trod enc Tryz.prog w base spare held fuel t [v] = some x) :
 ∃ l : List α, Rd cel k w v l ∧ SlOk v ∧ ∀ a ∈ l, P a := by
 rcases open_slice ht h with ⟨hcs, _⟩ | ⟨a, len, cap, m, n', D, Pl, hcs, _, hl, hm, hmm, _, hx⟩
 ·injection hcs with hcs
  subst hcs
  exact ⟨[], Rd.nil _ _ _, fun a n c e => by injection e with e1 e2 e3; omega, by simp⟩
 ·injection hcs with hcs
  subst hcs
  rw [hc] at hx
  have hlm : len ≤ m := by rw [hmm]; split <;> omega
  obtain ⟨f, hf⟩ := choose_lt (α := α) (n := len) (p := fun i s => (∀ j, j < k → w.cell? (a.add (i * k + j)) = (cel s)[j]?) ∧ P s) fun i hi => by
   obtain ⟨cs', h1, h2⟩ := hx i (by omega)
   obtain ⟨s, rfl, hp⟩ := hel _ _ _ h2
   obtain ⟨_, _, h3⟩ := World.cells?_some h1
   exact ⟨s, fun j hj => by rw [← h3 j hj, add_add], hp⟩
  obtain ⟨b, off, spot⟩ := a
  have hsl : SlOk (.slice (some ⟨b, off, spot⟩) len cap) := fun a n c e => by injection e with e1 e2 e3; omega
  rcases Nat.eq_zero_or_pos len with h0 | h0
  ·subst h0
   exact ⟨[], ⟨by simp, _, _, rfl, fun h => by simp at h⟩, hsl, by simp⟩
  ·have hcl : 0 < (cel (f 0)).length := by rw [hk]; exact hk0
   have hc0 := (hf 0 h0).1 0 hk0
   rw [List.getElem?_eq_getElem hcl] at hc0
   have hc1 : w.cell? ⟨b, off, spot⟩ = some (cel (f 0))[0] := by simpa [Addr.add] using hc0
   have hspot := cell_spot hc1
   subst hspot
   have hb : b < w.heap.size := World.block_lt_of_cell? w ⟨b, off, none⟩ hc1
   have hlen : ((List.range len).map f).length = len := by simp
   refine ⟨(List.range len).map f, ⟨by rw [hlen]; unfold maxLen at hm; omega, some ⟨b, off, none⟩, cap, by rw [hlen], fun _ => ⟨b, off, rfl, hb, ?_⟩⟩, hsl, fun a ha => ?_⟩
   ·intro i s hs j u hu
    obtain ⟨hi, hs'⟩ := List.getElem?_eq_some_iff.1 hs
    simp only [List.length_map, List.length_range] at hi
    have hj : j < k := by rw [← hk s]; exact (List.getElem?_eq_some_iff.1 hu).1
    have := (hf i hi).1 j hj
    rw [addr_add] at this
    rw [Nat.add_assoc, this]
    simp only [List.getElem_map, List.getElem_range] at hs'
    rw [hs']
    exact hu
   ·obtain ⟨i, hi, rfl⟩ := List.mem_map.1 ha
    exact (hf i (List.mem_range.1 hi)).2
set_option maxRecDepth 100000 in
theorem open_events {v : Value} {d : DataW H} {p : List MemPlace} {b0 : Nat} (hv : Value.okWide Tryz.prog w .any b0 41 v) (h : DataW.Trod enc Tryz.prog w base spare held 41 v d p) :
 ∃ l : List Ev, Rd Ev.cells 5 w v l ∧ SlOk v := by
 obtain ⟨fuel, hf⟩ := h
 have hv1 : v.cells.toList = [v] := by
  rcases okWide_slice Tryz.underlying41 hv with ⟨a, n, c, rfl⟩
  rfl
 rw [hv1] at hf
 obtain ⟨l, h1, h2, _⟩ := open_list (P := fun _ => True) (cel := Ev.cells) (k := 5) (by decide) (fun _ => rfl) Tryz.underlying41 Tryz.ucells76 (fun n cs x h => by obtain ⟨e, he⟩ := open_ev_cells h; exact ⟨e, he, trivial⟩) hf
 exact ⟨l, h1, h2⟩
end
end
section
open Go.ChangeShapes Go.WideShapes Go.RowKit Go.Joins Go.Deep
theorem u8_bounds {a : Int} (h : (Lit.int .u8 a).wf = true) : 0 ≤ a ∧ a ≤ 255 := by
 simp [Lit.wf, IntKind.min, IntKind.max, IntKind.signed, IntKind.bits] at h
 omega
section
variable {H : Type} {enc : TypeId × Value → H} {w : World} {base : Nat} {spare : Nat → Bool} {held : Bool}
set_option maxRecDepth 100000 in
theorem open_patV {v : Value} {d : DataW H} {p : List MemPlace} {b0 : Nat} (hv : Value.okWide Tryz.prog w .any b0 27 v) (h : DataW.Trod enc Tryz.prog w base spare held 27 v d p) :
 ∃ (x : Node) (u : Value), v = .agg (patA x u) ∧ RdK w x.ks u := by
 obtain ⟨⟨cs⟩, rfl, hsz⟩ := okWide_struct Tryz.underlying27 hv
 obtain ⟨fuel, hf⟩ := h
 obtain ⟨x, u, e, hk⟩ := open_pat_cells _ _ _ _ (Nat.lt_succ_self _) hf
 refine ⟨x, u, ?_, hk⟩
 have e : cs = (patA x u).toList := e
 rw [e]
set_option maxRecDepth 100000 in
theorem open_testV {v : Value} {d : DataW H} {p : List MemPlace} {b0 : Nat} (hv : Value.okWide Tryz.prog w .any b0 24 v) (h : DataW.Trod enc Tryz.prog w base spare held 24 v d p) :
 ∃ t : Test, v = .agg #[.int .i64 t.src, .int .i64 t.low, .int .i64 t.high] := by
 obtain ⟨⟨cs⟩, rfl, hsz⟩ := okWide_struct Tryz.underlying24 hv
 obtain ⟨fuel, hf⟩ := h
 obtain ⟨t, e⟩ := open_test_cells hf
 refine ⟨t, ?_⟩
 have e : cs = t.cells := e
 rw [e]
 rfl
end
end
section
open Go.RowKit Go.Shelf
theorem within2_any (v : Value) (x : List Int) (b : Nat) (u : Value) (m : List Int) (w : World) (hx : Rd intC 1 w v x) (hm : Rd intC 1 w u m) (hc : w.cell? ⟨b, 0, none⟩ = some u) (hb : b < w.heap.size) (sx : fitL x) (sm : fitL m) :
 Calls Tryz.prog 109 #[v, .pointer (some ⟨b, 0, none⟩)] w fun e w' => e = .returned (.bool (decide (x = m))) ∧ Below w.heap.size w w' := by
 obtain ⟨a2, c2, rfl⟩ : ∃ a c, u = .slice a m.length c := by obtain ⟨_, a, c, rfl, _⟩ := hm; exact ⟨a, c, rfl⟩
 have HO := zH (refOrder_eq v _ x m w hx hm sx sm)
 clear hx hm sx sm
 go_enter Tryz.func109, Tryz.ntmps109
 go_wp2_with fail
 refine HO.out.mono ?_
 rintro e w2 ⟨o, rfl, ho, hb2⟩
 have HB := zH (zA ho hb2)
 clear ho hb2
 go_wp2_with fail
 go_ret
 refine ⟨ret_bool ?_, HB.out.2⟩
 rw [Bool.eq_iff_iff]
 simp [HB.out.1]
theorem LL.forms {w : World} {lo : Nat} {v : Value} {gs : List Row} (h : LL w lo v gs) : ∀ p ∈ gs, ∃ a c, p.1 = .slice a p.2.length c := fun p hp => by
 obtain ⟨_, a, c, e, _⟩ := (h.2 p hp).2.1
 exact ⟨a, c, e⟩
theorem any_nums {gs : List Row} {m : List Int} : (gs.any fun p => decide (p.2 = m)) = decide (m ∈ nums gs) := by
 rw [Bool.eq_iff_iff, List.any_eq_true, decide_eq_true_iff]
 unfold nums
 simp only [List.mem_map, decide_eq_true_eq]
theorem within1_any (u : Value) (m : List Int) (b : Nat) (v : Value) (gs : List Row) (lo : Nat) (w : World) (hm : Rd intC 1 w u m) (hl : LL w lo v gs) (hc : w.cell? ⟨b, 0, none⟩ = some v) (sx : ∀ x ∈ nums gs, fitL x) (sm : fitL m) :
 Calls Tryz.prog 108 #[u, .pointer (some ⟨b, 0, none⟩)] w fun e w' => e = .returned (.bool (!decide (m ∈ nums gs))) ∧ Below w.heap.size w w' := by
 obtain ⟨a2, c2, rfl⟩ : ∃ a c, u = .slice a m.length c := by obtain ⟨_, a, c, rfl, _⟩ := hm; exact ⟨a, c, rfl⟩
 obtain ⟨a1, c1, rfl, _, _⟩ := hl.form
 have HL := zH (zA hl (zA hm (zA sx (zA sm hc))))
 clear hl hm sx sm
 go_enter Tryz.func108, Tryz.ntmps108
 go_upto_region 1 with (fail)
 refine zX (G := fun W => Code.wp _ _ _ _ W) w _ _ fun w1 hb1 hz1 hx1 => ?_
 replace hc := zB hb1 hc
 have H1 := zH (zA hb1 hx1)
 clear hb1 hx1
 go_wp2_with fail
 obtain ⟨hl, hm, sx, sm, _⟩ := HL.out
 obtain ⟨hb1, hx1⟩ := H1.out
 have hl1 := hl.below hb1
 refine (rows_has 109 #[.pointer (some ⟨w.heap.size, 0, none⟩)] (fun p => decide (p.2 = m)) _ gs w1 (win_rd row_len hl1.1) hl1.forms (enters_of Tryz.func109 (by kernel_rfl) rfl) (fun W p hp hW => ?_)).mono ?_
 ·exact within2_any p.1 p.2 w.heap.size _ m W (((hl1.2 p hp).2.1).below hW) ((hm.below hb1).below hW) (zB hW (zC hx1 0)) (by have := hW.size; omega) (sx p.2 (List.mem_map.2 ⟨p, hp, rfl⟩)) sm
 ·rintro e w2 ⟨rfl, hb2⟩
  obtain ⟨r, hr⟩ : ∃ r, r = gs.any fun p => decide (p.2 = m) := ⟨_, rfl⟩
  rw [← hr]
  have HB := zH (hb1.trans (hb2.mono hb1.size))
  have HE := zH (show (!r) = !decide (m ∈ nums gs) by rw [hr, any_nums])
  clear hr hb1 hb2 hz1 hx1 hl1 hl hm sx sm hc
  go_wp2_with fail
  go_ret
  exact ⟨ret_bool HE.out, HB.out⟩
theorem within_law (v1 v2 : Value) (g1 g2 : List Row) (lo1 lo2 : Nat) (w : World) (h1 : LL w lo1 v1 g1) (h2 : LL w lo2 v2 g2) (s1 : ∀ x ∈ nums g1, fitL x) (s2 : ∀ x ∈ nums g2, fitL x) :
 Calls Tryz.prog 31 #[v1, v2] w fun e w' => e = .returned (.bool ((nums g1).all fun x => decide (x ∈ nums g2))) ∧ Below w.heap.size w w' := by
 obtain ⟨a1, c1, rfl, _, _⟩ := h1.form
 obtain ⟨a2, c2, rfl, _, _⟩ := h2.form
 have HL := zH (zA h1 (zA h2 (zA s1 s2)))
 clear h1 h2 s1 s2
 go_enter Tryz.func31, Tryz.ntmps31
 go_wp2_with fail
 refine zX (G := fun W => Calls _ _ _ W _) w _ _ fun w1 hb1 hz1 hx1 => ?_
 obtain ⟨h1, h2, s1, s2⟩ := HL.out
 have k1 := h1.below hb1
 have k2 := h2.below hb1
 refine (rows_has 108 #[.pointer (some ⟨w.heap.size, 0, none⟩)] (fun p => !decide (p.2 ∈ nums g2)) _ g1 w1 (win_rd row_len k1.1) k1.forms (enters_of Tryz.func108 (by kernel_rfl) rfl) (fun W p hp hW => ?_)).mono ?_
 ·exact within1_any p.1 p.2 w.heap.size _ g2 lo2 W (((k1.2 p hp).2.1).below hW) (k2.below hW) (zB hW (zC hx1 0)) s2 (s1 p.2 (List.mem_map.2 ⟨p, hp, rfl⟩))
 ·rintro e w2 ⟨rfl, hb2⟩
  have HB := zH (hb1.trans (hb2.mono hb1.size))
  have HE := zH (show (!(g1.any fun p => !decide (p.2 ∈ nums g2))) = (nums g1).all fun x => decide (x ∈ nums g2) by
   unfold nums
   rw [List.all_map, List.not_any_eq_all_not]
   congr 1
   funext p
   simp)
  generalize (g1.any fun p => !decide (p.2 ∈ nums g2)) = r at *
  clear hb1 hb2 hz1 hx1 h1 h2 k1 k2 s1 s2
  go_wp2_with fail
  go_ret
  exact ⟨ret_bool HE.out, HB.out⟩
end
section
open Go.RowKit Go.Shelf
set_option maxHeartbeats 1000000 in
theorem cloneRows (v : Value) (gs : List Row) (lo : Nat) (w : World) (h : LL w lo v gs) (hl : gs.length ≤ 100000) :
 Calls Tryz.prog 44 #[v] w fun e w' => ∃ a c, e = .returned (.slice a gs.length c) ∧ Win rowC 1 31 w' (.slice a gs.length c) (fun i => w.heap.size ≤ i) gs ∧ Below w.heap.size w w' := by
 obtain ⟨a, c, rfl, hc, _⟩ := h.form
 have HR := zH h.rdC
 have HB := zH (Below.refl w.heap.size w)
 have hz := h.1.2
 clear h
 cases a with
 | none =>
  have h0 : gs = [] := by
   rcases hz with ⟨e, h⟩ | ⟨g, o, k, cur, e, _⟩
   ·exact List.eq_nil_of_length_eq_zero h
   ·injection e with e; cases e
  subst h0
  clear hz
  have heq : ∀ w, (binOp .eql 44 (.slice none 0 c) (.slice none 0 0)).run Tryz.prog w = .ok (.bool true) w := fun _ => by kernel_rfl
  go_enter Tryz.func44, Tryz.ntmps44
  go_wp2
  go_ret
  exact ⟨none, 0, rfl, winC_nil _ _ _ _, HB.out⟩
 | some a =>
  clear hz
  have heq : ∀ w, (binOp .eql 44 (.slice (some a) gs.length c) (.slice none 0 0)).run Tryz.prog w = .ok (.bool false) w := fun _ => by kernel_rfl
  go_enter Tryz.func44, Tryz.ntmps44
  go_wp2_with (at_builtin; (refine wpList_append_rd _ (by rfl) _ _ _ (by rfl) 31 1 24 _ Tryz.underlying44 info_row rfl (by decide) _ (fun i => i = w.heap.size) 0 [] (by rfl) _ (by rfl) ⟨by simp, .inr ⟨w.heap.size, 0, 0, #[], rfl, rfl, heap_alloc_new w _, Nat.le_refl _, by unfold maxLen; omega, by simp, by simp⟩⟩ gs.length _ (rdC_below HR.out ((Below.refl _ _).alloc (Nat.le_refl _) _)) (by unfold maxLen; omega) (by omega) ?_); intro v2 w2 hwin2 hfr2 hsz2; simp only [Nat.zero_add, List.nil_append] at hwin2; obtain ⟨a2, c2, rfl, hn2, hm2⟩ := zS hwin2)
  go_ret
  have hb2 : Below w.heap.size w w2 := ((Below.refl _ _).alloc (Nat.le_refl _) _).trans (zO hfr2 (by simp) fun i hi => by have h : some i = some w.heap.size := hi; injection h with h; omega)
  exact ⟨_, _, rfl, zN hwin2 fun i hi => by rcases hi with h | h; exact Nat.le_of_eq h.1.symm; simp at h; omega, hb2⟩
theorem LL.one (w : World) (lo : Nat) (p : Row) (h : RowAt w lo p) (hlo : lo ≤ w.heap.size) : LL (w.alloc (.cells #[p.1] 31)) lo (.slice (some ⟨w.heap.size, 0, none⟩) 1 1) [p] :=
 ⟨⟨by simp [rowC], .inr ⟨w.heap.size, 0, 1, #[p.1], rfl, hlo, heap_alloc_new w _, Nat.le_refl _, by unfold maxLen; omega, by simp, by simp [rowC]⟩⟩, fun q hq => by
  rcases List.mem_cons.1 hq with rfl | hq
  ·exact h.below ((Below.refl _ _).alloc (Nat.le_refl _) _)
  ·cases hq⟩
theorem all_one {m : List Int} {gs : List Row} (p : Row) (h : p.2 = m) : ((nums [p]).all fun x => decide (x ∈ nums gs)) = decide (m ∈ nums gs) := by
 subst h
 simp [nums]
set_option maxRecDepth 100000 in
theorem parts1_any (p : Row) (lo T bA oA cA : Nat) (v0 v1 : Value) (g0 g1 : List Row) (w : World) (hp : RowAt w lo p) (hlo : lo ≤ w.heap.size) (sp : fitL p.2) (h0 : LL w lo v0 g0) (h1 : LL w lo v1 g1) (s0 : ∀ x ∈ nums g0, fitL x) (s1 : ∀ x ∈ nums g1, fitL x)
 (c0 : w.cell? ⟨T, 0, none⟩ = some (.slice (some ⟨bA, oA, none⟩) 7 cA)) (c1 : w.cell? ⟨bA, oA, none⟩ = some v0) (c2 : w.cell? ⟨bA, oA + 1, none⟩ = some v1) :
 Calls Tryz.prog 45 #[p.1, .pointer (some ⟨T, 0, none⟩)] w fun e w' => e = .returned (.bool (decide (p.2 ∈ nums g0) || decide (p.2 ∈ nums g1))) ∧ Below w.heap.size w w' := by
 obtain ⟨a1, k1, rfl, _, _⟩ := h0.form
 obtain ⟨a2, k2, rfl, _, _⟩ := h1.form
 obtain ⟨u, xs⟩ := p
 obtain ⟨ax, cx, e⟩ : ∃ a c, u = .slice a xs.length c := by obtain ⟨_, a, c, e, _⟩ := hp.2.1; exact ⟨a, c, e⟩
 subst e
 have hL := LL.one w lo _ hp hlo
 have hW := within_law _ _ _ g0 lo lo _ hL (h0.below ((Below.refl _ _).alloc (Nat.le_refl _) _)) (fun x hx => by simp [nums] at hx; rw [hx]; exact sp) s0
 rw [all_one _ rfl] at hW
 have HW := zH hW
 have HH := zH (zA hp (zA hlo (zA sp (zA h1 s1))))
 clear hW hL hp hlo sp h0 h1 s0 s1
 dsimp only at *
 obtain ⟨r, hr⟩ : ∃ r, r = decide (xs ∈ nums g0) := ⟨_, rfl⟩
 rw [← hr] at HW
 have HR := zH hr
 clear hr
 have d0 := zB ((Below.refl w.heap.size w).alloc (Nat.le_refl _) (.cells #[.slice ax xs.length cx] 31)) c0
 have d1 := zB ((Below.refl w.heap.size w).alloc (Nat.le_refl _) (.cells #[.slice ax xs.length cx] 31)) c1
 go_enter Tryz.func45, Tryz.ntmps45
 go_wp2_with fail
 refine HW.out.mono ?_
 rintro e w2 ⟨rfl, hb2⟩
 have hb : Below w.heap.size w w2 := ((Below.refl _ _).alloc (Nat.le_refl _) _).trans (hb2.mono (by simp))
 have HB := zH hb
 clear hb2 d0 d1
 have e0 := zB hb c0
 have e2 := zB hb c2
 clear hb c0 c1 c2
 cases r with
 | true =>
  go_wp2
  go_ret
  exact ⟨ret_bool (by rw [← HR.out]; rfl), HB.out⟩
 | false =>
  have d0 := zB ((Below.refl w2.heap.size w2).alloc (Nat.le_refl _) (.cells #[.slice ax xs.length cx] 31)) e0
  have d2 := zB ((Below.refl w2.heap.size w2).alloc (Nat.le_refl _) (.cells #[.slice ax xs.length cx] 31)) e2
  go_wp2_with fail
  obtain ⟨hp, hlo, sp, h1, s1⟩ := HH.out
  have hp2 := hp.below HB.out
  have h12 := h1.below HB.out
  have hL := LL.one w2 lo _ hp2 (Nat.le_trans hlo HB.out.size)
  have hW := within_law _ _ _ g1 lo lo _ hL (h12.below ((Below.refl _ _).alloc (Nat.le_refl _) _)) (fun x hx => by simp [nums] at hx; rw [hx]; exact sp) s1
  rw [all_one _ rfl] at hW
  obtain ⟨q, hq⟩ : ∃ q, q = decide (xs ∈ nums g1) := ⟨_, rfl⟩
  rw [← hq] at hW
  have HQ := zH hq
  refine hW.mono ?_
  rintro e w3 ⟨rfl, hb3⟩
  replace HB := zH (HB.out.trans ((((Below.refl _ _).alloc (Nat.le_refl _) _).trans (hb3.mono (by simp))).mono HB.out.size))
  clear hW hL hp2 h12 hp hlo sp h1 s1 hb3 d0 d2 e0 e2 hq
  go_wp2_with fail
  go_ret
  exact ⟨ret_bool (by rw [← HR.out, ← HQ.out]; rfl), HB.out⟩
end
section
open Go.RowKit Go.Shelf
theorem delAll (w0 : World) (T bA oA cA : Nat) (v0 v1 : Value) (g0 g1 g2 : List Row) (h0 : LL w0 0 v0 g0) (h1 : LL w0 0 v1 g1) (h2 : ∀ p ∈ g2, RowAt w0 0 p) (s0 : ∀ x ∈ nums g0, fitL x) (s1 : ∀ x ∈ nums g1, fitL x) (s2 : ∀ x ∈ nums g2, fitL x)
 (c0 : w0.cell? ⟨T, 0, none⟩ = some (.slice (some ⟨bA, oA, none⟩) 7 cA)) (c1 : w0.cell? ⟨bA, oA, none⟩ = some v0) (c2 : w0.cell? ⟨bA, oA + 1, none⟩ = some v1) (hsub : ∀ x ∈ nums g2, x ∈ nums g0 ∨ x ∈ nums g1) (hl : g2.length < 1000000)
 (a : Option Addr) (c : Nat) (W : World) (hW : Below w0.heap.size w0 W) (hwin : Win rowC 1 31 W (.slice a g2.length c) (fun i => w0.heap.size ≤ i) g2) :
 Calls Tryz.prog 43 #[.slice a g2.length c, .func (.func 45) #[] #[.pointer (some ⟨T, 0, none⟩)]] W fun e w' => ∃ a', e = .returned (.slice a' 0 c) ∧ Below w0.heap.size w0 w' := by
 have hob := winC_ob hwin
 refine (delRows_any 45 #[.pointer (some ⟨T, 0, none⟩)] (fun p => decide (p.2 ∈ nums g0) || decide (p.2 ∈ nums g1)) a c _ W g2 hwin (fun p hp => ?_) hl (enters_of Tryz.func45 (by kernel_rfl) rfl) (fun W' p hp hf => ?_)).mono ?_
 ·obtain ⟨_, z, k, e, _⟩ := (h2 p hp).2.1
  exact ⟨z, k, e⟩
 ·have hb : Below w0.heap.size w0 W' := hW.trans (zO hf hW.size fun i hi => (hob i hi).1)
  exact parts1_any p 0 T bA oA cA v0 v1 g0 g1 W' ((h2 p hp).below hb) (Nat.zero_le _) (s2 p.2 (List.mem_map.2 ⟨p, hp, rfl⟩)) (h0.below hb) (h1.below hb) s0 s1 (zB hb c0) (zB hb c1) (zB hb c2)
 ·rintro e w' ⟨gs', hg, rfl, _, hf⟩
  have h0 : gs' = [] := by
   rw [hg.out]
   refine List.filter_eq_nil_iff.2 fun p hp => ?_
   rcases hsub p.2 (List.mem_map.2 ⟨p, hp, rfl⟩) with h | h <;> simp [h]
  subst h0
  exact ⟨a, rfl, hW.trans (zO hf hW.size fun i hi => (hob i hi).1)⟩
end
section
theorem query_parts {srcs near : Int} {x : Node} (hq : queryP srcs x near = true) : (1 ≤ srcs ∧ srcs ≤ 4) ∧ patP srcs x.op x.t x.n x.ks = true ∧ inP near 0 200 = true := by
 unfold queryP at hq
 simp only [Bool.and_eq_true] at hq
 refine ⟨?_, hq.1.2, hq.2⟩
 have := hq.1.1
 unfold inP at this
 simp only [Bool.and_eq_true, decide_eq_true_eq] at this
 exact this
theorem match_spec {srcs near : Int} {x : Node} {same : Bool} {l : List Ev} (he : eventsP srcs l = true) {m : List (List Int)} (h : matchP l (formOf x) near same = some m) :
 sortedO ordL m ∧ ∀ z, z ∈ m ↔ Lang l (formOf x) z ∧ askedP l z near same = true := by
 unfold matchP at h
 cases ha : allP l (formOf x) with
 | none => rw [ha] at h; cases h
 | some r =>
  rw [ha] at h
  injection h with h
  subst h
  obtain ⟨h1, h2, h3⟩ := all_lang (by have := (events_small he).1; omega) (formOf x) r ha
  exact ⟨List.Pairwise.filter _ h1, fun z => by rw [List.mem_filter, h3]⟩
end
section
theorem asked_mono {l : List Ev} {z : List Int} {near d : Int} {same : Bool} (hd : 0 ≤ d) (h : askedP l z near same = true) : askedP l z (near + d) same = true := by
 unfold askedP at *
 simp only [Bool.and_eq_true, decide_eq_true_eq] at *
 exact ⟨by omega, h.2⟩
theorem link_mono {l : List Ev} {n d a b : Int} {lk : Option Test} (hd : 0 ≤ d) (h : linkP l n lk a b = true) : linkP l (n + d) lk a b = true := by
 unfold linkP followsP at *
 simp only [Bool.and_eq_true, decide_eq_true_eq] at *
 exact ⟨⟨h.1.1, by omega⟩, h.2⟩
theorem link_lack {l : List Ev} {n a b : Int} {t : Test} (h : linkP l n (some t) a b = true) : linkP l n none a b = true := by
 unfold linkP at *
 simp only [Bool.and_eq_true] at *
 exact ⟨h.1, trivial⟩
theorem form_or {srcs n1 n2 : Int} {a b : Node} (ha : queryP srcs a n1 = true) (hb : queryP srcs b n2 = true) : formOf (orN a b) = .or (formOf a) (formOf b) :=
 formOf_eq ⟨rfl, rfl, rfl, _, _, _, _, _, _, _, _, rfl, formOf_shape (query_parts ha).2.1, formOf_shape (query_parts hb).2.1⟩
theorem form_then {srcs n1 n2 n : Int} {a b : Node} (ha : queryP srcs a n1 = true) (hb : queryP srcs b n2 = true) : formOf (thenN n a b) = .thn n (formOf a) (formOf b) :=
 formOf_eq ⟨rfl, rfl, rfl, _, _, _, _, _, _, _, _, rfl, formOf_shape (query_parts ha).2.1, formOf_shape (query_parts hb).2.1⟩
theorem form_lackN {srcs n1 n2 n : Int} {a b : Node} {t : Test} (ha : queryP srcs a n1 = true) (hb : queryP srcs b n2 = true) : formOf (lackN n a (oneN t) b) = .lack n (formOf a) t (formOf b) :=
 formOf_eq ⟨rfl, rfl, rfl, _, _, _, _, _, _, _, _, rfl, formOf_shape (query_parts ha).2.1, formOf_shape (query_parts hb).2.1⟩
def sub (a b : List (List Int)) : Bool := a.all fun x => decide (x ∈ b)
theorem sub_iff {a b : List (List Int)} : sub a b = true ↔ ∀ x ∈ a, x ∈ b := by
 unfold sub
 simp
structure Parts (m0 m1 m2 m3 m4 m5 m6 : List (List Int)) : Prop where
 h02 : sub m0 m2 = true
 h12 : sub m1 m2 = true
 h2 : ∀ x ∈ m2, x ∈ m0 ∨ x ∈ m1
 h43 : sub m4 m3 = true
 h35 : sub m3 m5 = true
 h56 : sub m5 m6 = true
theorem parts_spec {srcs w d : Int} {a b : Node} {t : Test} {l : List Ev} (he : eventsP srcs l = true) (hd : 0 ≤ d) {m0 m1 m2 m3 m4 m5 m6 : List (List Int)}
 (q0 : queryP srcs a w = true) (q1 : queryP srcs b w = true)
 (r0 : matchP l (formOf a) w false = some m0) (r1 : matchP l (formOf b) w false = some m1) (r2 : matchP l (formOf (orN a b)) w false = some m2) (r3 : matchP l (formOf (thenN w a b)) w false = some m3)
 (r4 : matchP l (formOf (lackN w a (oneN t) b)) w false = some m4) (r5 : matchP l (formOf (thenN w a b)) (w + d) false = some m5) (r6 : matchP l (formOf (thenN (w + d) a b)) (w + d) false = some m6) : Parts m0 m1 m2 m3 m4 m5 m6 := by
 have s0 := (match_spec he r0).2
 have s1 := (match_spec he r1).2
 have s2 := (match_spec he r2).2
 have s3 := (match_spec he r3).2
 have s4 := (match_spec he r4).2
 have s5 := (match_spec he r5).2
 have s6 := (match_spec he r6).2
 rw [form_or q0 q1] at s2
 rw [form_then q0 q1] at s3 s5 s6
 rw [form_lackN q0 q1] at s4
 refine ⟨sub_iff.2 fun x hx => ?_, sub_iff.2 fun x hx => ?_, fun x hx => ?_, sub_iff.2 fun x hx => ?_, sub_iff.2 fun x hx => ?_, sub_iff.2 fun x hx => ?_⟩
 ·exact (s2 x).2 ⟨.orl ((s0 x).1 hx).1, ((s0 x).1 hx).2⟩
 ·exact (s2 x).2 ⟨.orr ((s1 x).1 hx).1, ((s1 x).1 hx).2⟩
 ·obtain ⟨h1, h2⟩ := (s2 x).1 hx
  cases h1 with
  | orl h => exact .inl ((s0 x).2 ⟨h, h2⟩)
  | orr h => exact .inr ((s1 x).2 ⟨h, h2⟩)
 ·obtain ⟨h1, h2⟩ := (s4 x).1 hx
  cases h1 with
  | lack ha hb hk => exact (s3 _).2 ⟨.thn ha hb (link_lack hk), h2⟩
 ·obtain ⟨h1, h2⟩ := (s3 x).1 hx
  exact (s5 x).2 ⟨h1, asked_mono hd h2⟩
 ·obtain ⟨h1, h2⟩ := (s5 x).1 hx
  cases h1 with
  | thn ha hb hk => exact (s6 _).2 ⟨.thn ha hb (link_mono hd hk), h2⟩
end
section
open Go.RowKit Go.Shelf
structure Two (w0 : World) (m cs : Nat) (B5 : Nat) (pc : Array Value) (v1 v2 v3 v4 : Value) (x : Auto) (W : World) : Prop where
 p : W.heap[w0.heap.size]? = some (.cells pc 27 (0, 0))
 r : W.heap[w0.heap.size + 1]? = some (.cells #[.slice none 0 0, .slice none 0 0, .slice none 0 0, .slice none 0 0] 34 (0, 0))
 b5 : W.heap[B5]? = some (.cells #[v1, v2, v3, v4] 34 (0, 0))
 first : Win intC 1 3 W v2 (fun i => w0.heap.size ≤ i ∧ i < m) x.first
 last : Win intC 1 3 W v3 (fun i => w0.heap.size ≤ i ∧ i < m) x.last
 follow : Win edgeC 7 123 W v4 (fun i => w0.heap.size ≤ i) x.follow
 apart : ∀ i, some i = v2.ownBlock → some i ≠ v3.ownBlock
 below : Below w0.heap.size w0 W
 size : cs ≤ W.heap.size
theorem Two.fr {w0 : World} {m cs B5 : Nat} {pc : Array Value} {v1 v2 v3 v4 : Value} {x : Auto} {W W' : World} {S : Nat → Prop} (h : Two w0 m cs B5 pc v1 v2 v3 v4 x W) (hf : Fr S W W')
 (hS : ∀ i, S i → w0.heap.size ≤ i ∧ i ≠ w0.heap.size ∧ i ≠ w0.heap.size + 1 ∧ i ≠ B5 ∧ ∀ cur T q, W.heap[i]? = some (.cells cur T q) → T ≠ 3 ∧ T ≠ 123) : Two w0 m cs B5 pc v1 v2 v3 v4 x W' := by
 have hl : ∀ {i o}, W.heap[i]? = some o → i < W.heap.size := fun h => (Array.getElem?_eq_some_iff.1 h).1
 refine ⟨(hf.block _ (hl h.p) fun hs => (hS _ hs).2.1 rfl).trans h.p, (hf.block _ (hl h.r) fun hs => (hS _ hs).2.2.1 rfl).trans h.r, (hf.block _ (hl h.b5) fun hs => (hS _ hs).2.2.2.1 rfl).trans h.b5, winC_away h.first hf fun i hi hs => ?_, winC_away h.last hf fun i hi hs => ?_, winC_away h.follow hf fun i hi hs => ?_, h.apart, h.below.trans (zO hf h.below.size fun i hi => (hS i hi).1), Nat.le_trans h.size hf.size⟩
 ·obtain ⟨_, cur, hg⟩ := win_own_type h.first i hi
  exact ((hS i hs).2.2.2.2 _ _ _ hg).1 rfl
 ·obtain ⟨_, cur, hg⟩ := win_own_type h.last i hi
  exact ((hS i hs).2.2.2.2 _ _ _ hg).1 rfl
 ·obtain ⟨_, cur, hg⟩ := win_own_type h.follow i hi
  exact ((hS i hs).2.2.2.2 _ _ _ hg).2 rfl
theorem Two.keep {w0 : World} {m cs B5 : Nat} {pc : Array Value} {v1 v2 v3 v4 : Value} {x : Auto} {W W' : World} (h : Two w0 m cs B5 pc v1 v2 v3 v4 x W) (hb : Below W.heap.size W W') : Two w0 m cs B5 pc v1 v2 v3 v4 x W' :=
 h.fr (S := fun _ => False) (zF hb) fun _ h => h.elim
structure Dua (w0 : World) (m : Nat) (B5 B6 : Nat) (pc : Array Value) (v1 v2 v3 v4 y1 y2 y3 y4 : Value) (x y : Auto) (W : World) : Prop where
 two : Two w0 m m B5 pc v1 v2 v3 v4 x W
 b6 : W.heap[B6]? = some (.cells #[y1, y2, y3, y4] 34 (0, 0))
 yf : Win intC 1 3 W y2 (fun i => m ≤ i) y.first
 yl : Win intC 1 3 W y3 (fun i => m ≤ i) y.last
 ye : Win edgeC 7 123 W y4 (fun i => m ≤ i) y.follow
 yap : ∀ i, some i = y2.ownBlock → some i ≠ y3.ownBlock
theorem Dua.fr {w0 : World} {m B5 B6 : Nat} {pc : Array Value} {v1 v2 v3 v4 y1 y2 y3 y4 : Value} {x y : Auto} {W W' : World} {S : Nat → Prop} (h : Dua w0 m B5 B6 pc v1 v2 v3 v4 y1 y2 y3 y4 x y W) (hf : Fr S W W')
 (hS : ∀ i, S i → w0.heap.size ≤ i ∧ i ≠ w0.heap.size ∧ i ≠ w0.heap.size + 1 ∧ i ≠ B5 ∧ i ≠ B6 ∧ ∀ cur T q, W.heap[i]? = some (.cells cur T q) → T ≠ 3 ∧ T ≠ 123) : Dua w0 m B5 B6 pc v1 v2 v3 v4 y1 y2 y3 y4 x y W' := by
 have hl : ∀ {i o}, W.heap[i]? = some o → i < W.heap.size := fun h => (Array.getElem?_eq_some_iff.1 h).1
 refine ⟨h.two.fr hf fun i hi => ⟨(hS i hi).1, (hS i hi).2.1, (hS i hi).2.2.1, (hS i hi).2.2.2.1, (hS i hi).2.2.2.2.2⟩, (hf.block _ (hl h.b6) fun hs => (hS _ hs).2.2.2.2.1 rfl).trans h.b6, winC_away h.yf hf fun i hi hs => ?_, winC_away h.yl hf fun i hi hs => ?_, winC_away h.ye hf fun i hi hs => ?_, h.yap⟩
 ·obtain ⟨_, cur, hg⟩ := win_own_type h.yf i hi
  exact ((hS i hs).2.2.2.2.2 _ _ _ hg).1 rfl
 ·obtain ⟨_, cur, hg⟩ := win_own_type h.yl i hi
  exact ((hS i hs).2.2.2.2.2 _ _ _ hg).1 rfl
 ·obtain ⟨_, cur, hg⟩ := win_own_type h.ye i hi
  exact ((hS i hs).2.2.2.2.2 _ _ _ hg).2 rfl
theorem Dua.keep {w0 : World} {m B5 B6 : Nat} {pc : Array Value} {v1 v2 v3 v4 y1 y2 y3 y4 : Value} {x y : Auto} {W W' : World} (h : Dua w0 m B5 B6 pc v1 v2 v3 v4 y1 y2 y3 y4 x y W) (hb : Below W.heap.size W W') : Dua w0 m B5 B6 pc v1 v2 v3 v4 y1 y2 y3 y4 x y W' :=
 h.fr (S := fun _ => False) (zF hb) fun _ h => h.elim
theorem Dua.tests {w0 : World} {m B5 B6 : Nat} {pc : Array Value} {v1 v2 v3 v4 y1 y2 y3 y4 u : Value} {x y : Auto} {W W' : World} {ts : List Test} (h : Dua w0 m B5 B6 pc v1 v2 v3 v4 y1 y2 y3 y4 x y W) (hx : Win Test.cells 3 24 W u (fun i => w0.heap.size ≤ i ∧ i < m) ts)
 (hf : Fr (fun i => some i = u.ownBlock) W W') : Dua w0 m B5 B6 pc v1 v2 v3 v4 y1 y2 y3 y4 x y W' :=
 h.fr hf fun i hi => by
  obtain ⟨hl, cur, hg⟩ := win_own_type hx i hi
  refine ⟨hl.1, win_not_at hx h.two.p (by decide) i hi, win_not_at hx h.two.r (by decide) i hi, win_not_at hx h.two.b5 (by decide) i hi, win_not_at hx h.b6 (by decide) i hi, fun cur' T q h' => ?_⟩
  rw [hg] at h'
  injection h' with h'
  injection h' with _ h'
  subst h'
  exact ⟨by decide, by decide⟩
theorem Dua.store {w0 : World} {m B5 B6 B : Nat} {pc cs : Array Value} {v1 v2 v3 v4 y1 y2 y3 y4 : Value} {x y : Auto} {W W' : World} (h : Dua w0 m B5 B6 pc v1 v2 v3 v4 y1 y2 y3 y4 x y W) (hB : W.heap[B]? = some (.cells cs 34 (0, 0)))
 (hf : Fr (fun i => i = B) W W') (h5 : B5 < B) (h6 : B6 < B) (h0 : w0.heap.size + 1 < B) : Dua w0 m B5 B6 pc v1 v2 v3 v4 y1 y2 y3 y4 x y W' :=
 h.fr hf fun i hi => by
  have e : i = B := hi
  subst e
  refine ⟨by omega, by omega, by omega, by omega, by omega, fun cur' T q h' => ?_⟩
  rw [hB] at h'
  injection h' with h'
  injection h' with _ h'
  subst h'
  exact ⟨by decide, by decide⟩
end
section
open Go.RowKit Go.Shelf
theorem AutoW.at_ {w : World} {lo : Nat} {v1 v2 v3 v4 : Value} {au : Auto} (h : AutoW w lo v1 v2 v3 v4 au) : AutoAt w v1 v2 v3 v4 au := ⟨win_rd test_len h.tests, win_rd intC_len h.first, win_rd intC_len h.last, win_rd edge_len h.follow⟩
theorem AutoAt.res {w1 w2 : World} {v1 v2 v3 v4 : Value} {au : Auto} {R : Nat} {ds : Array Value} {lo : Nat} (h : AutoW w1 lo v1 v2 v3 v4 au) (hr : w1.heap[R]? = some (.cells ds 34 (0, 0))) (hg : Fr (fun i => i = R) w1 w2) : AutoW w2 lo v1 v2 v3 v4 au :=
 h.store hr hg
end
section
open Go.RowKit Go.Shelf
theorem OwnRowsR.ll {w w' : World} {v : Value} {m : List (List Int)} (h : OwnRowsR w w' v m) : ∃ gs, nums gs = m ∧ LL w' 0 v gs := by
 obtain ⟨a, gs, rfl, hn, hl⟩ := h
 exact ⟨gs, hn, hl.mono (Nat.zero_le _)⟩
theorem OwnRows.ll {w w' : World} {v : Value} {m : List (List Int)} (h : OwnRows w w' v m) : ∃ gs, nums gs = m ∧ LL w' 0 v gs := by
 obtain ⟨a, gs, rfl, hn, hl, _⟩ := h
 exact ⟨gs, hn, hl.mono (Nat.zero_le _)⟩
theorem OwnRows.form {w w' : World} {v : Value} {m : List (List Int)} (h : OwnRows w w' v m) : ∃ a, v = .slice a m.length m.length := by
 obtain ⟨a, gs, rfl, hn, hl, _⟩ := h
 exact ⟨a, by rw [← hn, nums_len]⟩
theorem OwnRowsR.form {w w' : World} {v : Value} {m : List (List Int)} (h : OwnRowsR w w' v m) : ∃ a, v = .slice a m.length m.length := by
 obtain ⟨a, gs, rfl, hn, hl⟩ := h
 exact ⟨a, by rw [← hn, nums_len]⟩
end
end Go.Proofs.YtgiploddoffmjaaGreat
