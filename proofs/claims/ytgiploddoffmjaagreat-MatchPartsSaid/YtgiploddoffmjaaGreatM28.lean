/- My texts, joined: H0, H1. -/
import Derived.Below
import Derived.BigQuiet
import Derived.ChangeKeysEq
import Derived.Deep.AppendLies
import Derived.Deep.CutBlock
import Derived.Deep.DeepCutAuto
import Derived.Deep.LoopGhost
import Derived.Deep.QuietTactic
import Derived.Deep.RegionHeld
import Derived.Deep.RegionHeld3
import Derived.Deep.RegionLaw
import Derived.Deep.Slices
import Derived.Defers
import Derived.Ground.Names2Prog
import Derived.Ground.Names8Prog
import Derived.Ground.SlsfProg
import Derived.Handy
import Derived.KernelRfl
import Derived.Laws.AppendOwn
import Derived.Laws.AppendOwnNone
import Derived.Laws.CopyRow
import Derived.Laws.Pointers
import Derived.Laws.StructEq
import Derived.Lib.Hide
import Derived.Lib.LaidU8
import Derived.Lib.Overlaps
import Derived.Lib.SmallJoins
import Derived.LoopIn
import Derived.LoopN
import Derived.LoopNIn
import Derived.LoopTactic
import Derived.MapKept
import Derived.Maps.AppendAt
import Derived.Maps.OwnOps
import Derived.Maps.RangeRun
import Derived.Maps.RangeWalk
import Derived.Outline
import Derived.OwnWalk
import Derived.OwnWalkIn
import Derived.ProofKit
import Derived.RangeFuncBound
import Derived.RangeFuncCalls
import Derived.RangeFuncLeaves
import Derived.RangeFuncNested
import Derived.Recover
import Derived.Shelf.Abstract
import Derived.Shelf.RegionOpen
import Derived.Shelf.SlGeneric
import Derived.Shelf.SlLaysF0
import Derived.Shelf.SlSortCmp.HeapSort1
import Derived.Shelf.SlSortCmp.Insertion
import Derived.Shelf.SlSortCmp.Insertion1
import Derived.Shelf.SlSortCmp.Median1
import Derived.Shelf.SlSortCmp.NoneTotal
import Derived.Shelf.SlSortCmp.PartialInsertion1
import Derived.Shelf.SlSortCmp.Partition1
import Derived.Shelf.SlSortCmp.PartitionEqual1
import Derived.Shelf.SlSortCmp.Pdq1
import Derived.Shelf.SlSortCmp.Pivot1
import Derived.Shelf.SlSortCmp.ReverseRange1
import Derived.Shelf.SlSortCmp.SiftDown1
import Derived.Shelf.SlSortCmp.Whole1
import Derived.Shelf.SlSortCmp.WholeK
import Derived.Shelf.Slices.In.SortNone
import Derived.Shelf.Small.Bits
import Derived.Shelf.Sort.Plain
import Derived.Shelf.Spec.SlicesGrow
import Derived.TacticsInMore
import Derived.Test.YtgiploddoffmjaaGreatProg
import Derived.WalkKit
import Derived.WalkLawsBesides
import Derived.WalkSpells
import Derived.Test.YtgiploddoffmjaaGreatM0
import Derived.Test.YtgiploddoffmjaaGreatM1
import Derived.Test.YtgiploddoffmjaaGreatM2
import Derived.Test.YtgiploddoffmjaaGreatM3
import Derived.Test.YtgiploddoffmjaaGreatM4
import Derived.Test.YtgiploddoffmjaaGreatM5
import Derived.Test.YtgiploddoffmjaaGreatM6
import Derived.Test.YtgiploddoffmjaaGreatM7
import Derived.Test.YtgiploddoffmjaaGreatM8
import Derived.Test.YtgiploddoffmjaaGreatM9
import Derived.Test.YtgiploddoffmjaaGreatM10
import Derived.Test.YtgiploddoffmjaaGreatM11
import Derived.Test.YtgiploddoffmjaaGreatM12
import Derived.Test.YtgiploddoffmjaaGreatM13
import Derived.Test.YtgiploddoffmjaaGreatM14
import Derived.Test.YtgiploddoffmjaaGreatM15
import Derived.Test.YtgiploddoffmjaaGreatM16
import Derived.Test.YtgiploddoffmjaaGreatM17
import Derived.Test.YtgiploddoffmjaaGreatM18
import Derived.Test.YtgiploddoffmjaaGreatM19
import Derived.Test.YtgiploddoffmjaaGreatM20
import Derived.Test.YtgiploddoffmjaaGreatM21
import Derived.Test.YtgiploddoffmjaaGreatM22
import Derived.Test.YtgiploddoffmjaaGreatM23
import Derived.Test.YtgiploddoffmjaaGreatM24
import Derived.Test.YtgiploddoffmjaaGreatM25
import Derived.Test.YtgiploddoffmjaaGreatM26
set_option linter.unusedVariables false
set_option linter.unusedSimpArgs false
set_option linter.unusedSectionVars false
set_option maxRecDepth 10000
namespace Go.Proofs.YtgiploddoffmjaaGreat
section
open Go.ChangeShapes Go.WideShapes Go.RowKit Go.Joins Go.Deep
theorem Tryz.ucells27 : Tryz.prog.cellsOf 27 = 6 := by kernel_rfl
theorem Tryz.ucells29 : Tryz.prog.cellsOf 29 = 8 := by kernel_rfl
theorem Tryz.ucells24 : Tryz.prog.cellsOf 24 = 3 := by kernel_rfl
theorem Tryz.ucells3 : Tryz.prog.cellsOf 3 = 1 := by kernel_rfl
theorem Tryz.ucells4 : Tryz.prog.cellsOf 4 = 1 := by kernel_rfl
theorem Tryz.ucells22 : Tryz.prog.cellsOf 22 = 1 := by kernel_rfl
theorem Tryz.ucells25 : Tryz.prog.cellsOf 25 = 1 := by kernel_rfl
section
variable {H : Type} {enc : TypeId × Value → H} {w : World} {base : Nat} {spare : Nat → Bool} {held : Bool}
instance : Inhabited (Node × Value) := ⟨(⟨0, ⟨0, 0, 0⟩, 0, .nil⟩, .slice none 0 0)⟩
instance : Inhabited Ev := ⟨⟨0, 0, 0, 0, 0⟩⟩
set_option maxRecDepth 100000 in
theorem open_test_cells {n : Nat} {cs : List Value} {x : DataW H × List MemPlace} (h : DataW.trod enc Tryz.prog w base spare held n 24 cs = some x) : ∃ t : Test, cs = t.cells := by
 obtain ⟨y0, y1, y2, m, _, hlen, h0, h1, h2⟩ := trod_struct3 Tryz.underlying24 h
 rw [Tryz.ucells24] at hlen
 match cs, hlen with
 | [c0, c1, c2], _ =>
  simp only [Tryz.ucells3, List.drop_zero, List.drop_succ_cons, List.take_succ_cons, List.take_zero] at h0 h1 h2
  obtain ⟨a, e0, _, wa⟩ := DataW.trod_int Tryz.underlying3 h0
  obtain ⟨b, e1, _, wb⟩ := DataW.trod_int Tryz.underlying3 h1
  obtain ⟨c, e2, _, wc⟩ := DataW.trod_int Tryz.underlying3 h2
  simp at e0 e1 e2
  subst e0 e1 e2
  exact ⟨⟨a, b, c⟩, rfl⟩
set_option maxRecDepth 100000 in
/-- A pattern that came in, however deep. -/
theorem open_pat_cells : ∀ (k n : Nat) (cs : List Value) (x : DataW H × List MemPlace), SizeOf.sizeOf x.1 < k → DataW.trod enc Tryz.prog w base spare held n 27 cs = some x →
 ∃ (X : Node) (v : Value), cs = (patA X v).toList ∧ RdK w X.ks v
 | 0, _, _, _, hk, _ => absurd hk (Nat.not_lt_zero _)
 | k + 1, n, cs, x, hk, h => by
  obtain ⟨y0, y1, y2, y3, m, hx, hlen, h0, h1, h2, h3⟩ := trod_struct4 Tryz.underlying27 h
  rw [Tryz.ucells27] at hlen
  have hsz : SizeOf.sizeOf y3.1 < k := by
   rw [hx] at hk
   simp only [DataW.agg.sizeOf_spec, List.cons.sizeOf_spec] at hk
   omega
  match cs, hlen with
  | [c0, c1, c2, c3, c4, c5], _ =>
   simp only [Tryz.ucells3, Tryz.ucells22, Tryz.ucells24, Tryz.ucells25, List.drop_zero, List.drop_succ_cons, List.take_succ_cons, List.take_zero] at h0 h1 h2 h3
   obtain ⟨op, e0, _, _⟩ := DataW.trod_int Tryz.underlying22 h0
   obtain ⟨t, e1⟩ := open_test_cells h1
   obtain ⟨nn, e2, _, _⟩ := DataW.trod_int Tryz.underlying3 h2
   simp only [Test.cells, List.cons.injEq, and_true] at e0 e1 e2
   obtain ⟨e1, e4, e5⟩ := e1
   subst e0 e1 e2 e4 e5
   have hkid : ∃ ks : Pats, RdK w ks c5 := by
    rcases open_slice Tryz.underlying25 h3 with ⟨hcs, _⟩ | ⟨a, len, cap, m', n', D, Pl, hcs, _, hl, hm, hmm, hd, hx⟩
    ·injection hcs with hcs
     subst hcs
     exact ⟨.nil, none, 0, rfl, Nat.le_refl _, by decide, fun h => absurd h (by simp [Pats.len])⟩
    ·injection hcs with hcs
     subst hcs
     rw [Tryz.ucells27] at hx
     have hlm : len ≤ m' := by rw [hmm]; split <;> omega
     obtain ⟨f, hf⟩ := choose_lt (α := Node × Value) (n := len) (p := fun i s => (∀ j, j < 6 → w.cell? (a.add (i * 6 + j)) = (patA s.1 s.2)[j]?) ∧ RdK w s.1.ks s.2) fun i hi => by
      obtain ⟨cs', h1, h2⟩ := hx i (by omega)
      have hsi : SizeOf.sizeOf (D i) < k := by
       have hmem : D i ∈ (List.range len).map D := List.mem_map.2 ⟨i, List.mem_range.2 hi, rfl⟩
       have := List.sizeOf_lt_of_mem hmem
       rw [hd] at hsz
       simp only [DataW.slice.sizeOf_spec] at hsz
       omega
      obtain ⟨X, v, rfl, hr⟩ := open_pat_cells k n' cs' (D i, Pl i) hsi h2
      obtain ⟨_, _, h3⟩ := World.cells?_some h1
      exact ⟨(X, v), fun j hj => by rw [← add_add, h3 j hj]; simp, hr⟩
     refine ⟨patsOf ((List.range len).map f), ?_⟩
     have hll : (patsOf ((List.range len).map f)).len = len := by rw [patsOf_len]; simp
     obtain ⟨b, off, spot⟩ := a
     refine ⟨some ⟨b, off, spot⟩, cap, by rw [hll], by rw [hll]; exact hl, by rw [hll]; unfold maxLen at hm; omega, fun hp => ?_⟩
     rw [hll] at hp
     have hc0 : w.cell? ⟨b, off, spot⟩ = some (.int .i64 (f 0).1.op) := by
      have := (hf 0 hp).1 0 (by omega)
      simpa [Addr.add] using this
     have hspot := cell_spot hc0
     subst hspot
     have hb : b < w.heap.size := World.block_lt_of_cell? w ⟨b, off, none⟩ hc0
     refine ⟨b, off, rfl, hb, rdPs_of _ _ fun i x hx => ?_⟩
     obtain ⟨hi, hx'⟩ := List.getElem?_eq_some_iff.1 hx
     simp only [List.length_map, List.length_range] at hi
     simp only [List.getElem_map, List.getElem_range] at hx'
     subst hx'
     refine ⟨fun j u hu => ?_, (hf i hi).2⟩
     have hj : j < 6 := (Array.getElem?_eq_some_iff.1 hu).1
     have := (hf i hi).1 j hj
     rw [addr_add] at this
     rw [Nat.add_assoc, this]
     exact hu
   obtain ⟨ks, hks⟩ := hkid
   exact ⟨⟨op, t, nn, ks⟩, c5, rfl, hks⟩
end
end
section
open Go.ChangeShapes Go.WideShapes Go.RowKit Go.Joins Go.Deep
theorem Tryz.ucells31 : Tryz.prog.cellsOf 31 = 1 := by kernel_rfl
theorem list8 {α : Type} {l : List α} (h : l.length = 8) : ∃ a b c d e f g k, l = [a, b, c, d, e, f, g, k] := by
 match l, h with
 | [a, b, c, d, e, f, g, k], _ => exact ⟨a, b, c, d, e, f, g, k, rfl⟩
section
variable {H : Type} {enc : TypeId × Value → H} {w : World} {base : Nat} {spare : Nat → Bool} {held : Bool}
set_option maxRecDepth 100000 in
/-- A query that came in. -/
theorem open_query {v : Value} {d : DataW H} {p : List MemPlace} {b0 : Nat} (hv : Value.okWide Tryz.prog w .any b0 29 v) (h : DataW.Trod enc Tryz.prog w base spare held 29 v d p) :
 ∃ (x : Node) (u : Value) (near : Int) (same : Bool), v = .agg (queryA x u near same) ∧ RdK w x.ks u := by
 obtain ⟨⟨cs⟩, rfl, hsz⟩ := okWide_struct Tryz.underlying29 hv
 obtain ⟨fuel, hf⟩ := h
 obtain ⟨y0, y1, y2, m, hx, hlen, h0, h1, h2⟩ := trod_struct3 Tryz.underlying29 hf
 obtain ⟨c0, c1, c2, c3, c4, c5, c6, c7, rfl⟩ := list8 (hlen.trans Tryz.ucells29)
 simp only [Value.cells, Tryz.ucells27, Tryz.ucells3, Tryz.ucells4, List.drop_zero, List.drop_succ_cons, List.take_succ_cons, List.take_zero] at h0 h1 h2
 obtain ⟨x, u, e0, hk⟩ := open_pat_cells _ _ _ _ (Nat.lt_succ_self _) h0
 obtain ⟨near, e1, _, _⟩ := DataW.trod_int Tryz.underlying3 h1
 obtain ⟨same, e2, _⟩ := DataW.trod_bool Tryz.underlying4 h2
 refine ⟨x, u, near, same, ?_, hk⟩
 simp only [patA, List.cons.injEq, and_true] at e0 e1 e2
 obtain ⟨rfl, rfl, rfl, rfl, rfl, rfl⟩ := e0
 subst e1 e2
 rfl
end
end
end Go.Proofs.YtgiploddoffmjaaGreat
