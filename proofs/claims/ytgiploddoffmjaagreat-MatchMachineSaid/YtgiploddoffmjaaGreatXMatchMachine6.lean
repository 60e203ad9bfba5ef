/- My texts, joined: W94, W93, H2, W90. -/
import Derived.Below
import Derived.BigQuiet
import Derived.ChangeKeysEq
import Derived.Deep.AppendLies
import Derived.Deep.CutBlock
import Derived.Deep.DeepCutAuto
import Derived.Deep.LoopGhost
import Derived.Deep.QuietTactic
import Derived.Deep.RegionHeld
import Derived.Deep.RegionHeld3
import Derived.Deep.RegionLaw
import Derived.Deep.Slices
import Derived.Defers
import Derived.Ground.Names2Prog
import Derived.Ground.Names8Prog
import Derived.Ground.SlsfProg
import Derived.Handy
import Derived.KernelRfl
import Derived.Laws.AppendOwn
import Derived.Laws.AppendOwnNone
import Derived.Laws.CopyRow
import Derived.Laws.Pointers
import Derived.Laws.StructEq
import Derived.Lib.Hide
import Derived.Lib.LaidU8
import Derived.Lib.Overlaps
import Derived.Lib.SmallJoins
import Derived.LoopIn
import Derived.LoopN
import Derived.LoopNIn
import Derived.LoopTactic
import Derived.MapKept
import Derived.Maps.AppendAt
import Derived.Maps.OwnOps
import Derived.Maps.RangeRun
import Derived.Maps.RangeWalk
import Derived.Outline
import Derived.OwnWalk
import Derived.OwnWalkIn
import Derived.ProofKit
import Derived.RangeFuncBound
import Derived.RangeFuncCalls
import Derived.RangeFuncLeaves
import Derived.RangeFuncNested
import Derived.Recover
import Derived.Shelf.Abstract
import Derived.Shelf.RegionOpen
import Derived.Shelf.SlGeneric
import Derived.Shelf.SlLaysF0
import Derived.Shelf.SlSortCmp.HeapSort1
import Derived.Shelf.SlSortCmp.Insertion
import Derived.Shelf.SlSortCmp.Insertion1
import Derived.Shelf.SlSortCmp.Median1
import Derived.Shelf.SlSortCmp.NoneTotal
import Derived.Shelf.SlSortCmp.PartialInsertion1
import Derived.Shelf.SlSortCmp.Partition1
import Derived.Shelf.SlSortCmp.PartitionEqual1
import Derived.Shelf.SlSortCmp.Pdq1
import Derived.Shelf.SlSortCmp.Pivot1
import Derived.Shelf.SlSortCmp.ReverseRange1
import Derived.Shelf.SlSortCmp.SiftDown1
import Derived.Shelf.SlSortCmp.Whole1
import Derived.Shelf.SlSortCmp.WholeK
import Derived.Shelf.Slices.In.SortNone
import Derived.Shelf.Small.Bits
import Derived.Shelf.Sort.Plain
import Derived.Shelf.Spec.SlicesGrow
import Derived.TacticsInMore
import Derived.Test.YtgiploddoffmjaaGreatProg
import Derived.WalkKit
import Derived.WalkLawsBesides
import Derived.WalkSpells
import Derived.Test.YtgiploddoffmjaaGreatM0
import Derived.Test.YtgiploddoffmjaaGreatM1
import Derived.Test.YtgiploddoffmjaaGreatM2
import Derived.Test.YtgiploddoffmjaaGreatM3
import Derived.Test.YtgiploddoffmjaaGreatM4
import Derived.Test.YtgiploddoffmjaaGreatM5
import Derived.Test.YtgiploddoffmjaaGreatM6
import Derived.Test.YtgiploddoffmjaaGreatM7
import Derived.Test.YtgiploddoffmjaaGreatM8
import Derived.Test.YtgiploddoffmjaaGreatM9
import Derived.Test.YtgiploddoffmjaaGreatM10
import Derived.Test.YtgiploddoffmjaaGreatM11
import Derived.Test.YtgiploddoffmjaaGreatM12
import Derived.Test.YtgiploddoffmjaaGreatM13
import Derived.Test.YtgiploddoffmjaaGreatM14
import Derived.Test.YtgiploddoffmjaaGreatM15
import Derived.Test.YtgiploddoffmjaaGreatM16
import Derived.Test.YtgiploddoffmjaaGreatM17
import Derived.Test.YtgiploddoffmjaaGreatM18
import Derived.Test.YtgiploddoffmjaaGreatM19
import Derived.Test.YtgiploddoffmjaaGreatM20
import Derived.Test.YtgiploddoffmjaaGreatM21
import Derived.Test.YtgiploddoffmjaaGreatM22
import Derived.Test.YtgiploddoffmjaaGreatM23
import Derived.Test.YtgiploddoffmjaaGreatM24
import Derived.Test.YtgiploddoffmjaaGreatM25
import Derived.Test.YtgiploddoffmjaaGreatM26
import Derived.Test.YtgiploddoffmjaaGreatM28
import Derived.Test.YtgiploddoffmjaaGreatXMatchMachine1
import Derived.Test.YtgiploddoffmjaaGreatXMatchMachine2
import Derived.Test.YtgiploddoffmjaaGreatXMatchMachine3
import Derived.Test.YtgiploddoffmjaaGreatXMatchMachine4
import Derived.Test.YtgiploddoffmjaaGreatXMatchMachine5
set_option linter.unusedVariables false
set_option linter.unusedSimpArgs false
set_option linter.unusedSectionVars false
set_option maxRecDepth 10000
namespace Go.Proofs.YtgiploddoffmjaaGreat
section
open Go.RowKit Go.Shelf
def SlOk (v : Value) : Prop := ∀ a n c, v = .slice a n c → n ≤ c
theorem SlOk.le {a : Option Addr} {n c : Nat} (h : SlOk (.slice a n c)) : n ≤ c := h _ _ _ rfl
theorem refAsked_any (x : Node) (v : Value) (near : Int) (same : Bool) (srcs : Int) (l : List Ev) (u : Value) (w : World) (hk : RdK w x.ks v) (hr : Rd Ev.cells 5 w u l) :
 Calls Tryz.prog 22 #[.agg (queryA x v near same), .int .i64 srcs, u] w fun e w' => e = .returned (.bool (queryP srcs x near && eventsP srcs l)) ∧ Below w.heap.size w w' := by
 obtain ⟨a0, c0, rfl⟩ : ∃ a c, v = .slice a x.ks.len c := by obtain ⟨a, c, e, _⟩ := hk; exact ⟨a, c, e⟩
 obtain ⟨al, cl, rfl⟩ : ∃ a c, u = .slice a l.length c := by obtain ⟨_, a, c, rfl, _⟩ := hr; exact ⟨a, c, rfl⟩
 have hQ := fun W (h : Below w.heap.size w W) => refQuery_any x _ near same srcs W (hk.below h)
 have HE := zH (fun W (h : Below w.heap.size w W) => refEvents_any l _ srcs W (hr.below h))
 obtain ⟨b, hb⟩ : ∃ b, b = queryP srcs x near := ⟨_, rfl⟩
 rw [← hb] at hQ ⊢
 have HQ := zH hQ
 clear hQ hk hr hb
 cases b <;>
 (go_enter Tryz.func22, Tryz.ntmps22
  go_wp2_with fail
  refine zX (G := fun W => Calls _ _ _ W _) w _ _ fun w1 hb1 hz1 hx1 => ?_
  refine (HQ.out w1 hb1).mono ?_
  rintro e w2 ⟨rfl, hb2⟩
  have HB := zH (hb1.trans (hb2.mono hb1.size))
  clear hb1 hb2 hz1 hx1
  go_wp2_with (go_at_call 97; refine (HE.out w2 HB.out).mono ?_; rintro e w3 ⟨rfl, hb3⟩; replace HB := zH (HB.out.trans (hb3.mono HB.out.size)); clear hb3)
  go_ret
  exact ⟨by simp, HB.out⟩)
end
section
open Go.RowKit Go.Shelf
def fitL (xs : List Int) : Prop := ∀ z ∈ xs, -9223372036854775808 ≤ z ∧ z ≤ 9223372036854775807
theorem smallL.fit {xs : List Int} (h : smallL xs) : fitL xs := fun z hz => by have := h z hz; omega
theorem wrap_ne {a b : Int} (ha : -9223372036854775808 ≤ a ∧ a ≤ 9223372036854775807) (hb : -9223372036854775808 ≤ b ∧ b ≤ 9223372036854775807) (h : a ≠ b) : IntKind.i64.wrap (a - b) ≠ 0 := by
 have e : IntKind.i64.wrap (a - b) = wrap64 (a - b) := Go.IntWalk.i64_left _
 rw [e]
 unfold wrap64
 omega
set_option maxHeartbeats 4000000 in
theorem refOrder_eq (v1 v2 : Value) (xs ys : List Int) (w : World) (h1 : Rd intC 1 w v1 xs) (h2 : Rd intC 1 w v2 ys) (s1 : fitL xs) (s2 : fitL ys) :
 Calls Tryz.prog 28 #[v1, v2] w fun e w' => ∃ o, e = .returned (.int .i64 o) ∧ (o = 0 ↔ xs = ys) ∧ Below w.heap.size w w' := by
 obtain ⟨a1, c1, rfl⟩ : ∃ a c, v1 = .slice a xs.length c := by obtain ⟨_, a, c, rfl, _⟩ := h1; exact ⟨a, c, rfl⟩
 obtain ⟨a2, c2, rfl⟩ : ∃ a c, v2 = .slice a ys.length c := by obtain ⟨_, a, c, rfl, _⟩ := h2; exact ⟨a, c, rfl⟩
 have l1 := h1.1
 have l2 := h2.1
 have R1 := zH h1
 have R2 := zH h2
 have S1 := zH s1
 have S2 := zH s2
 clear h1 h2 s1 s2
 go_enter Tryz.func28, Tryz.ntmps28
 go_wp2
 go_loopw [5] (fun i W => ∃ n : Nat, i = .int .i64 n ∧ n ≤ xs.length ∧ n ≤ ys.length ∧ xs.take n = ys.take n ∧ Below w.heap.size w W) (fun i _ => xs.length - (intOf i).toNat)
 case atStart => exact ⟨0, rfl, by omega, by omega, rfl, Below.refl _ _⟩
 case round =>
  obtain ⟨n, rfl, hn1, hn2, ho, hB⟩ := hrel
  by_cases hx1 : n < xs.length
  ·by_cases hy1 : n < ys.length
   ·have hx := List.getElem?_eq_getElem hx1
    have hy := List.getElem?_eq_getElem hy1
    have mx : xs[n] ∈ xs := List.getElem_mem hx1
    have my : ys[n] ∈ ys := List.getElem_mem hy1
    generalize xs[n] = x at hx mx
    generalize ys[n] = y at hy my
    have bx := S1.out x mx
    have by_ := S2.out y my
    obtain ⟨b1, o1, rfl, _, hc1⟩ := rd_at (R1.out.below hB) hx
    obtain ⟨b2, o2, rfl, _, hc2⟩ := rd_at (R2.out.below hB) hy
    have q1 : wr.cell? ⟨b1, o1 + n * 1, none⟩ = some (.int .i64 x) := hc1 0 _ rfl
    have q2 : wr.cell? ⟨b2, o2 + n * 1, none⟩ = some (.int .i64 y) := hc2 0 _ rfl
    rw [Nat.mul_one] at q1 q2
    obtain ⟨d, hwd⟩ : ∃ d, IntKind.i64.wrap (x - y) = d := ⟨_, rfl⟩
    have HW := zH (show x ≠ y → d ≠ 0 from fun h => by rw [← hwd]; exact wrap_ne bx by_ h)
    have HO := zH (zA hx (zA hy (zA ho hB)))
    clear hc1 hc2 hx hy mx my ho hB bx by_
    by_cases hxy : x = y
    ·have hd : (x != y) = false := by simp [hxy]
     have HE := zH hxy
     clear hxy
     go_wp2
     go_quiet (fail)
     go_wp2
     go_roundw
     case rel => exact ⟨n + 1, by go_num, by omega, by omega, by rw [List.take_add_one, List.take_add_one, HO.out.2.2.1, HO.out.1, HO.out.2.1, HE.out], below_drewN HO.out.2.2.2 _⟩
     case measure => simp [intOf]; omega
    ·have hd : (x != y) = true := by simp [hxy]
     have HE := zH hxy
     clear hxy
     go_wp2
     go_quiet (fail)
     go_wp2
     go_quiet (fail)
     go_wp2
     go_ret
     refine ⟨_, rfl, ⟨fun h => absurd h (HW.out HE.out), fun h => ?_⟩, below_drewN (below_drewN HO.out.2.2.2 _) _⟩
     have e1 := HO.out.1
     rw [h, HO.out.2.1] at e1
     injection e1 with e1
     exact absurd e1.symm HE.out
   ·have hyl : n = ys.length := by omega
    have hwl : IntKind.i64.wrap ((xs.length : Int) - (ys.length : Int)) = (xs.length : Int) - ys.length := Go.IntWalk.i64_in _ (by omega)
    have HV := zH (zA hyl (zA ho hB))
    have n1 : ¬ (n : Int) < (ys.length : Int) := by omega
    have n2 : (n : Int) < (xs.length : Int) := by omega
    clear hyl ho hB
    go_wp2
    go_ret
    refine ⟨_, rfl, ⟨fun h => ?_, fun h => by have := HV.out.1; rw [h] at hx1; omega⟩, HV.out.2.2⟩
    have := HV.out.1
    omega
  ·have hxl : n = xs.length := by omega
   have hwl : IntKind.i64.wrap ((xs.length : Int) - (ys.length : Int)) = (xs.length : Int) - ys.length := Go.IntWalk.i64_in _ (by omega)
   have HV := zH (zA hxl (zA ho hB))
   have n2 : ¬ (n : Int) < (xs.length : Int) := by omega
   clear hxl ho hB
   go_wp2
   go_ret
   refine ⟨_, rfl, ⟨fun h => ?_, fun h => by rw [h]; omega⟩, HV.out.2.2⟩
   have h2 := HV.out.2.1
   have h3 := HV.out.1
   rw [List.take_of_length_le (by omega), List.take_of_length_le (by omega)] at h2
   exact h2
theorem find1_any (v : Value) (x : List Int) (b : Nat) (u : Value) (m : List Int) (w : World) (hx : Rd intC 1 w v x) (hm : Rd intC 1 w u m) (hc : w.cell? ⟨b, 0, none⟩ = some u) (hb : b < w.heap.size) (sx : fitL x) (sm : fitL m) :
 Calls Tryz.prog 27 #[v, .pointer (some ⟨b, 0, none⟩)] w fun e w' => e = .returned (.bool (decide (x = m))) ∧ Below w.heap.size w w' := by
 obtain ⟨a2, c2, rfl⟩ : ∃ a c, u = .slice a m.length c := by obtain ⟨_, a, c, rfl, _⟩ := hm; exact ⟨a, c, rfl⟩
 have HO := zH (refOrder_eq v _ x m w hx hm sx sm)
 clear hx hm sx sm
 go_enter Tryz.func27, Tryz.ntmps27
 go_wp2_with fail
 refine HO.out.mono ?_
 rintro e w2 ⟨o, rfl, ho, hb2⟩
 have HB := zH (zA ho hb2)
 clear ho hb2
 go_wp2_with fail
 go_ret
 refine ⟨ret_bool ?_, HB.out.2⟩
 rw [Bool.eq_iff_iff]
 simp [HB.out.1]
theorem find_any (v u : Value) (ms : List (List Int)) (gs : List Row) (m : List Int) (lo : Nat) (w : World) (hl : LL w lo v gs) (hn : nums gs = ms) (hm : Rd intC 1 w u m) (sx : ∀ x ∈ ms, fitL x) (sm : fitL m) :
 Calls Tryz.prog 25 #[v, u] w fun e w' => e = .returned (.bool (decide (m ∈ ms))) ∧ Below w.heap.size w w' := by
 obtain ⟨a2, c2, rfl⟩ : ∃ a c, u = .slice a m.length c := by obtain ⟨_, a, c, rfl, _⟩ := hm; exact ⟨a, c, rfl⟩
 have HL := zH (zA hl (zA hn (zA hm (zA sx sm))))
 clear hl hn hm sx sm
 go_enter Tryz.func25, Tryz.ntmps25
 go_wp2_with fail
 refine zX (G := fun W => Calls _ _ _ W _) w _ _ fun w1 hb1 hz1 hx1 => ?_
 obtain ⟨hl, hn, hm, sx, sm⟩ := HL.out
 have hl1 := hl.below hb1
 refine (rows_has 27 #[.pointer (some ⟨w.heap.size, 0, none⟩)] (fun p => decide (p.2 = m)) v gs w1 (win_rd row_len hl1.1) (fun p hp => ?_) (enters_of Tryz.func27 (by kernel_rfl) rfl) (fun W p hp hW => ?_)).mono ?_
 ·obtain ⟨_, a, c, e, _⟩ := (hl1.2 p hp).2.1
  exact ⟨a, c, e⟩
 ·have hrp := ((hl1.2 p hp).2.1).below hW
  exact find1_any p.1 p.2 w.heap.size _ m W hrp ((hm.below hb1).below hW) (zB hW (zC hx1 0)) (by have := hW.size; omega) (sx p.2 (by rw [← hn]; exact List.mem_map.2 ⟨p, hp, rfl⟩)) sm
 ·rintro e w2 ⟨rfl, hb2⟩
  have HB := zH (hb1.trans (hb2.mono hb1.size))
  have HE := zH (show (gs.any fun p => decide (p.2 = m)) = decide (m ∈ ms) by
   rw [Bool.eq_iff_iff, List.any_eq_true, decide_eq_true_iff, ← hn]
   unfold nums
   simp only [List.mem_map, decide_eq_true_eq])
  clear hb1 hb2 hz1 hx1 hl1 hl hn hm sx sm
  go_wp2_with fail
  go_ret
  exact ⟨ret_bool HE.out, HB.out⟩
end
section
open Go.ChangeShapes Go.WideShapes Go.RowKit Go.Joins Go.Deep
section
variable {H : Type} {enc : TypeId × Value → H} {w : World} {base : Nat} {spare : Nat → Bool} {held : Bool}
set_option maxRecDepth 100000 in
theorem open_ev_cells {n : Nat} {cs : List Value} {x : DataW H × List MemPlace} (h : DataW.trod enc Tryz.prog w base spare held n 76 cs = some x) : ∃ e : Ev, cs = e.cells := by
 obtain ⟨y0, y1, y2, m, _, hlen, h0, h1, h2⟩ := trod_struct3 Tryz.underlying76 h
 rw [Tryz.ucells76] at hlen
 match cs, hlen with
 | [c0, c1, c2, c3, c4], _ =>
  simp only [Tryz.ucells3, Tryz.ucells74, List.drop_zero, List.drop_succ_cons, List.take_succ_cons, List.take_zero] at h0 h1 h2
  obtain ⟨a, e0, _, _⟩ := DataW.trod_int Tryz.underlying3 h0
  obtain ⟨b, e1, _, _⟩ := DataW.trod_int Tryz.underlying3 h1
  obtain ⟨z0, z1, z2, m', _, _, k0, k1, k2⟩ := trod_struct3 Tryz.underlying74 h2
  simp only [Tryz.ucells3, List.drop_zero, List.drop_succ_cons, List.take_succ_cons, List.take_zero] at k0 k1 k2
  obtain ⟨c, e2, _, _⟩ := DataW.trod_int Tryz.underlying3 k0
  obtain ⟨d, e3, _, _⟩ := DataW.trod_int Tryz.underlying3 k1
  obtain ⟨e, e4, _, _⟩ := DataW.trod_int Tryz.underlying3 k2
  simp at e0 e1 e2 e3 e4
  subst e0 e1 e2 e3 e4
  exact ⟨⟨a, b, c, d, e⟩, rfl⟩
theorem open_list {α : Type} [Inhabited α] {cel : α → List Value} {k : Nat} {P : α → Prop} (hk0 : 0 < k) (hk : ∀ x, (cel x).length = k) {t e : TypeId} (ht : Tryz.prog.underlying t = some (.slice e)) (hc : Tryz.prog.cellsOf e = k)
 (hel : ∀ (n : Nat) (cs : List Value) (x : DataW H × List MemPlace), DataW.trod enc Tryz.prog w base spare held n e cs = some x → ∃ a, cs = cel a ∧ P a) {fuel : Nat} {v : Value} {x : DataW H × List MemPlace} (h : DataW.trod enc Tryz.prog w base spare held fuel t [v] = some x) :
 ∃ l : List α, Rd cel k w v l ∧ SlOk v ∧ ∀ a ∈ l, P a := by
 rcases open_slice ht h with ⟨hcs, _⟩ | ⟨a, len, cap, m, n', D, Pl, hcs, _, hl, hm, hmm, _, hx⟩
 ·injection hcs with hcs
  subst hcs
  exact ⟨[], Rd.nil _ _ _, fun a n c e => by injection e with e1 e2 e3; omega, by simp⟩
 ·injection hcs with hcs
  subst hcs
  rw [hc] at hx
  have hlm : len ≤ m := by rw [hmm]; split <;> omega
  obtain ⟨f, hf⟩ := choose_lt (α := α) (n := len) (p := fun i s => (∀ j, j < k → w.cell? (a.add (i * k + j)) = (cel s)[j]?) ∧ P s) fun i hi => by
   obtain ⟨cs', h1, h2⟩ := hx i (by omega)
   obtain ⟨s, rfl, hp⟩ := hel _ _ _ h2
   obtain ⟨_, _, h3⟩ := World.cells?_some h1
   exact ⟨s, fun j hj => by rw [← h3 j hj, add_add], hp⟩
  obtain ⟨b, off, spot⟩ := a
  have hsl : SlOk (.slice (some ⟨b, off, spot⟩) len cap) := fun a n c e => by injection e with e1 e2 e3; omega
  rcases Nat.eq_zero_or_pos len with h0 | h0
  ·subst h0
   exact ⟨[], ⟨by simp, _, _, rfl, fun h => by simp at h⟩, hsl, by simp⟩
  ·have hcl : 0 < (cel (f 0)).length := by rw [hk]; exact hk0
   have hc0 := (hf 0 h0).1 0 hk0
   rw [List.getElem?_eq_getElem hcl] at hc0
   have hc1 : w.cell? ⟨b, off, spot⟩ = some (cel (f 0))[0] := by simpa [Addr.add] using hc0
   have hspot := cell_spot hc1
   subst hspot
   have hb : b < w.heap.size := World.block_lt_of_cell? w ⟨b, off, none⟩ hc1
   have hlen : ((List.range len).map f).length = len := by simp
   refine ⟨(List.range len).map f, ⟨by rw [hlen]; unfold maxLen at hm; omega, some ⟨b, off, none⟩, cap, by rw [hlen], fun _ => ⟨b, off, rfl, hb, ?_⟩⟩, hsl, fun a ha => ?_⟩
   ·intro i s hs j u hu
    obtain ⟨hi, hs'⟩ := List.getElem?_eq_some_iff.1 hs
    simp only [List.length_map, List.length_range] at hi
    have hj : j < k := by rw [← hk s]; exact (List.getElem?_eq_some_iff.1 hu).1
    have := (hf i hi).1 j hj
    rw [addr_add] at this
    rw [Nat.add_assoc, this]
    simp only [List.getElem_map, List.getElem_range] at hs'
    rw [hs']
    exact hu
   ·obtain ⟨i, hi, rfl⟩ := List.mem_map.1 ha
    exact (hf i (List.mem_range.1 hi)).2
set_option maxRecDepth 100000 in
theorem open_events {v : Value} {d : DataW H} {p : List MemPlace} {b0 : Nat} (hv : Value.okWide Tryz.prog w .any b0 41 v) (h : DataW.Trod enc Tryz.prog w base spare held 41 v d p) :
 ∃ l : List Ev, Rd Ev.cells 5 w v l ∧ SlOk v := by
 obtain ⟨fuel, hf⟩ := h
 have hv1 : v.cells.toList = [v] := by
  rcases okWide_slice Tryz.underlying41 hv with ⟨a, n, c, rfl⟩
  rfl
 rw [hv1] at hf
 obtain ⟨l, h1, h2, _⟩ := open_list (P := fun _ => True) (cel := Ev.cells) (k := 5) (by decide) (fun _ => rfl) Tryz.underlying41 Tryz.ucells76 (fun n cs x h => by obtain ⟨e, he⟩ := open_ev_cells h; exact ⟨e, he, trivial⟩) hf
 exact ⟨l, h1, h2⟩
set_option maxRecDepth 100000 in
theorem open_ints {v : Value} {d : DataW H} {p : List MemPlace} {b0 : Nat} (hv : Value.okWide Tryz.prog w .any b0 31 v) (h : DataW.Trod enc Tryz.prog w base spare held 31 v d p) :
 ∃ l : List Int, Rd intC 1 w v l ∧ fitL l := by
 obtain ⟨fuel, hf⟩ := h
 have hv1 : v.cells.toList = [v] := by
  rcases okWide_slice Tryz.underlying31 hv with ⟨a, n, c, rfl⟩
  rfl
 rw [hv1] at hf
 obtain ⟨l, h1, _, h3⟩ := open_list (P := fun z : Int => -9223372036854775808 ≤ z ∧ z ≤ 9223372036854775807) (cel := intC) (k := 1) (by decide) (fun _ => rfl) Tryz.underlying31 Tryz.ucells3 (fun n cs x h => by
  obtain ⟨z, he, _, hw⟩ := DataW.trod_int Tryz.underlying3 h
  refine ⟨z, he, ?_⟩
  simp only [Lit.wf, IntKind.min, IntKind.max, IntKind.signed, IntKind.bits, Bool.and_eq_true, decide_eq_true_eq, if_true] at hw
  omega) hf
 exact ⟨l, h1, h3⟩
end
end
section
open Go.RowKit Go.Shelf
def testOrdW (a b : Test) : Int := if a.src ≠ b.src then IntKind.i64.wrap (a.src - b.src) else if a.low ≠ b.low then IntKind.i64.wrap (a.low - b.low) else IntKind.i64.wrap (a.high - b.high)
def edgeOrdW (a b : Edge) : Int := if a.from_ ≠ b.from_ then IntKind.i64.wrap (a.from_ - b.from_) else if a.to_ ≠ b.to_ then IntKind.i64.wrap (a.to_ - b.to_) else if a.n ≠ b.n then IntKind.i64.wrap (a.n - b.n) else if a.lack ≠ b.lack then (if a.lack then 1 else -1) else testOrdW a.t b.t
theorem edgeOrdW_eq {a b : Edge} (ha : edgeSm a) (hb : edgeSm b) : edgeOrdW a b = edgeOrd a b := by
 obtain ⟨af, at_, an, al, ⟨ax, alo, ahi⟩⟩ := a
 obtain ⟨bf, bt, bn, bl, ⟨bx, blo, bhi⟩⟩ := b
 dsimp only [edgeSm, small1] at ha hb
 simp only [edgeOrdW, edgeOrd, testOrdW, testOrd]
 rw [Go.IntWalk.i64_in (af - bf) (by omega), Go.IntWalk.i64_in (at_ - bt) (by omega), Go.IntWalk.i64_in (an - bn) (by omega), Go.IntWalk.i64_in (ax - bx) (by omega), Go.IntWalk.i64_in (alo - blo) (by omega), Go.IntWalk.i64_in (ahi - bhi) (by omega)]
set_option maxHeartbeats 4000000 in
theorem refTestOrd_w (a b : Test) (w : World) : Calls Tryz.prog 175 #[.agg #[.int .i64 a.src, .int .i64 a.low, .int .i64 a.high], .agg #[.int .i64 b.src, .int .i64 b.low, .int .i64 b.high]] w fun e w' => e = .returned (.int .i64 (testOrdW a b)) ∧ Below w.heap.size w w' := by
 obtain ⟨ax, al, ah⟩ := a
 obtain ⟨bx, bl, bh⟩ := b
 obtain ⟨o, ho⟩ : ∃ o, o = testOrdW ⟨ax, al, ah⟩ ⟨bx, bl, bh⟩ := ⟨_, rfl⟩
 rw [← ho]
 obtain ⟨yh1, h1⟩ : ∃ y, IntKind.i64.wrap (ax - bx) = y := ⟨_, rfl⟩
 obtain ⟨yh2, h2⟩ : ∃ y, IntKind.i64.wrap (al - bl) = y := ⟨_, rfl⟩
 obtain ⟨yh3, h3⟩ : ∃ y, IntKind.i64.wrap (ah - bh) = y := ⟨_, rfl⟩
 simp only [testOrdW] at ho
 have HB := zH (fun o1 o2 => (((Below.refl w.heap.size w).alloc (Nat.le_refl _) o1).alloc (by simp) o2))
 by_cases e1 : ax = bx
 ·by_cases e2 : al = bl
  ·have HO := zH (show o = yh3 by rw [← h3, ho, if_neg (by simp [e1]), if_neg (by simp [e2])])
   have n1 : (ax != bx) = false := by simp [e1]
   have n2 : (al != bl) = false := by simp [e2]
   clear ho e1 e2
   go_enter Tryz.func175, Tryz.ntmps175
   go_wp2_with fail
   go_ret
   exact ⟨ret_int HO.out.symm, HB.out _ _⟩
  ·have HO := zH (show o = yh2 by rw [← h2, ho, if_neg (by simp [e1]), if_pos e2])
   have n1 : (ax != bx) = false := by simp [e1]
   have n2 : (al != bl) = true := by simp [e2]
   clear ho e1 e2
   go_enter Tryz.func175, Tryz.ntmps175
   go_wp2_with fail
   go_ret
   exact ⟨ret_int HO.out.symm, HB.out _ _⟩
 ·have HO := zH (show o = yh1 by rw [← h1, ho, if_pos e1])
  have n1 : (ax != bx) = true := by simp [e1]
  clear ho e1
  go_enter Tryz.func175, Tryz.ntmps175
  go_wp2_with fail
  go_ret
  exact ⟨ret_int HO.out.symm, HB.out _ _⟩
set_option maxHeartbeats 4000000 in
theorem refEdgeOrd_w (a b : Edge) (w : World) : Calls Tryz.prog 102 #[.agg (edgeA a), .agg (edgeA b)] w fun e w' => e = .returned (.int .i64 (edgeOrdW a b)) ∧ Below w.heap.size w w' := by
 obtain ⟨af, at_, an, al, ⟨ax, alo, ahi⟩⟩ := a
 obtain ⟨bf, bt, bn, bl, ⟨bx, blo, bhi⟩⟩ := b
 have HT := zH (fun W => refTestOrd_w ⟨ax, alo, ahi⟩ ⟨bx, blo, bhi⟩ W)
 obtain ⟨o, ho⟩ : ∃ o, o = edgeOrdW ⟨af, at_, an, al, ⟨ax, alo, ahi⟩⟩ ⟨bf, bt, bn, bl, ⟨bx, blo, bhi⟩⟩ := ⟨_, rfl⟩
 rw [← ho]
 obtain ⟨yh1, h1⟩ : ∃ y, IntKind.i64.wrap (af - bf) = y := ⟨_, rfl⟩
 obtain ⟨yh2, h2⟩ : ∃ y, IntKind.i64.wrap (at_ - bt) = y := ⟨_, rfl⟩
 obtain ⟨yh3, h3⟩ : ∃ y, IntKind.i64.wrap (an - bn) = y := ⟨_, rfl⟩
 simp only [edgeOrdW] at ho
 have HB := zH (fun o1 o2 => (((Below.refl w.heap.size w).alloc (Nat.le_refl _) o1).alloc (by simp) o2))
 simp only [edgeA]
 by_cases e1 : af = bf
 rotate_left
 ·have HO := zH (show o = yh1 by rw [← h1, ho, if_pos e1])
  have n1 : (af != bf) = true := by simp [e1]
  clear ho e1
  go_enter Tryz.func102, Tryz.ntmps102
  go_wp2_with fail
  go_ret
  exact ⟨ret_int HO.out.symm, HB.out _ _⟩
 by_cases e2 : at_ = bt
 rotate_left
 ·have HO := zH (show o = yh2 by rw [← h2, ho, if_neg (by simp [e1]), if_pos e2])
  have n1 : (af != bf) = false := by simp [e1]
  have n2 : (at_ != bt) = true := by simp [e2]
  clear ho e1 e2
  go_enter Tryz.func102, Tryz.ntmps102
  go_wp2_with fail
  go_ret
  exact ⟨ret_int HO.out.symm, HB.out _ _⟩
 by_cases e3 : an = bn
 rotate_left
 ·have HO := zH (show o = yh3 by rw [← h3, ho, if_neg (by simp [e1]), if_neg (by simp [e2]), if_pos e3])
  have n1 : (af != bf) = false := by simp [e1]
  have n2 : (at_ != bt) = false := by simp [e2]
  have n3 : (an != bn) = true := by simp [e3]
  clear ho e1 e2 e3
  go_enter Tryz.func102, Tryz.ntmps102
  go_wp2_with fail
  go_ret
  exact ⟨ret_int HO.out.symm, HB.out _ _⟩
 rw [if_neg (by simp [e1]), if_neg (by simp [e2]), if_neg (by simp [e3])] at ho
 have n1 : (af != bf) = false := by simp [e1]
 have n2 : (at_ != bt) = false := by simp [e2]
 have n3 : (an != bn) = false := by simp [e3]
 clear e1 e2 e3
 cases al <;> cases bl
 ·have HO := zH (show o = testOrdW ⟨ax, alo, ahi⟩ ⟨bx, blo, bhi⟩ from ho)
  clear ho
  go_enter Tryz.func102, Tryz.ntmps102
  go_wp2_with (go_at_call 175; refine (HT.out _).mono ?_; rintro e w9 ⟨rfl, hb9⟩)
  go_ret
  exact ⟨ret_int HO.out.symm, (HB.out _ _).trans (hb9.mono (HB.out _ _).size)⟩
 ·have HO := zH (show o = -1 from ho)
  clear ho
  go_enter Tryz.func102, Tryz.ntmps102
  go_wp2_with fail
  go_ret
  exact ⟨ret_int HO.out.symm, HB.out _ _⟩
 ·have HO := zH (show o = 1 from ho)
  clear ho
  go_enter Tryz.func102, Tryz.ntmps102
  go_wp2_with fail
  go_ret
  exact ⟨ret_int HO.out.symm, HB.out _ _⟩
 ·have HO := zH (show o = testOrdW ⟨ax, alo, ahi⟩ ⟨bx, blo, bhi⟩ from ho)
  clear ho
  go_enter Tryz.func102, Tryz.ntmps102
  go_wp2_with (go_at_call 175; refine (HT.out _).mono ?_; rintro e w9 ⟨rfl, hb9⟩)
  go_ret
  exact ⟨ret_int HO.out.symm, (HB.out _ _).trans (hb9.mono (HB.out _ _).size)⟩
set_option maxRecDepth 100000 in
set_option maxHeartbeats 8000000 in
theorem refNumbers_any (v : Value) (l : List Int) (n : Int) (w : World) (hr : Rd intC 1 w v l) :
 Calls Tryz.prog 100 #[v, .int .i64 n] w fun e w' => e = .returned (.bool (placesFrom n none l)) ∧ Below w.heap.size w w' := by
 obtain ⟨a, c, rfl⟩ : ∃ a c, v = .slice a l.length c := by obtain ⟨_, a, c, rfl, _⟩ := hr; exact ⟨a, c, rfl⟩
 have hl63 := hr.1
 have HR := zH hr
 have HB := zH (Below.refl w.heap.size w)
 clear hr
 go_enter Tryz.func100, Tryz.ntmps100
 go_wp2
 go_loopw [5] (fun i W => ∃ (k : Nat), i = .int .i64 k ∧ k ≤ l.length ∧ placesFrom n (prevAt l k) (l.drop k) = placesFrom n none l ∧ Below w.heap.size w W) (fun i _ => l.length - (intOf i).toNat)
 case atStart => exact ⟨0, rfl, by omega, rfl, HB.out⟩
 case round =>
  obtain ⟨k, rfl, hnl, hi, hB⟩ := hrel
  by_cases hlt : k < l.length
  rotate_left
  ·obtain rfl : k = l.length := by omega
   have HX := zH (zA hi hB)
   clear hi hB
   go_wp2
   go_ret
   exact ⟨ret_bool (by rw [← HX.out.1, List.drop_length]; cases prevAt l l.length <;> rfl), HX.out.2⟩
  have hx := List.getElem?_eq_getElem hlt
  generalize l[k] = x at hx
  obtain ⟨b, off, rfl, hbl, hc⟩ := rd_at (HR.out.below hB) hx
  have q0 : wr.cell? ⟨b, off + k, none⟩ = some (.int .i64 x) := by have := hc 0 _ rfl; simpa using this
  have hd := places_drop (n := n) hx
  rw [hi] at hd
  have n1 : (k : Int) < (l.length : Int) := by omega
  have HS := zH (show ∀ W, Below wr.heap.size wr W → W.cell? ⟨b, off + k, none⟩ = some (.int .i64 x) from fun W hW => zB hW q0)
  have HBW := zH hB
  have HHX := zH hx
  clear hi hB hc hx q0
  by_cases hx0 : x < 0
  ·have HD := zH (zA (show placesFrom n none l = false by rw [hd, show inP x 0 (n - 1) = false by unfold inP; rw [decide_eq_false (by omega), Bool.false_and]]; rfl) HBW.out)
   have g0 : decide (x < 0) = true := decide_eq_true hx0
   clear hd hx0
   go_wp2_with fail
   refine zR 29 (S := fun W => W.cell? ⟨b, off + k, none⟩ = some (.int .i64 x)) (by kernel_rfl) (by kernel_rfl) rfl (HS.out _ ((Below.refl wr.heap.size wr).drew)) (fun hHeld => ?_)
   try simp only [List.reduceReplicate]
   repeat refine takeA [] (h := ?_)
   refine wpAnyH_done (by kernel_rfl) ?_ _
   clear hHeld
   go_wp2
   go_ret
   exact ⟨ret_bool HD.out.1.symm, HD.out.2.drew⟩
  by_cases hxn : n ≤ x
  ·have HD := zH (zA (show placesFrom n none l = false by rw [hd, show inP x 0 (n - 1) = false by unfold inP; rw [decide_eq_false (show ¬ x ≤ n - 1 by omega), Bool.and_false]]; rfl) HBW.out)
   have g0 : decide (x < 0) = false := decide_eq_false hx0
   have g1 : decide (n ≤ x) = true := decide_eq_true hxn
   clear hd hx0 hxn
   go_wp2_with fail
   refine zR 29 (S := fun W => W.cell? ⟨b, off + k, none⟩ = some (.int .i64 x)) (by kernel_rfl) (by kernel_rfl) rfl (HS.out _ ((Below.refl wr.heap.size wr).drew)) (fun hHeld => ?_)
   try simp only [List.reduceReplicate]
   repeat refine takeA [] (h := ?_)
   refine wpAnyH_done (by kernel_rfl) ?_ _
   clear hHeld
   go_wp2
   go_ret
   exact ⟨ret_bool HD.out.1.symm, HD.out.2.drew⟩
  have hin : inP x 0 (n - 1) = true := by unfold inP; rw [decide_eq_true (by omega), decide_eq_true (by omega)]; rfl
  rw [hin] at hd
  have g0 : decide (x < 0) = false := decide_eq_false hx0
  have g1 : decide (n ≤ x) = false := decide_eq_false hxn
  clear hx0 hxn
  by_cases hk : k = 0
  ·subst hk
   have HD := zH (zA (show placesFrom n none l = placesFrom n (prevAt l 1) (l.drop 1) by rw [hd]; simp [prevAt]) HBW.out)
   have HS0 := HS
   replace HS := zH (show ∀ W, Below wr.heap.size wr W → W.cell? ⟨b, off, none⟩ = some (.int .i64 x) from fun W hW => HS0.out W hW)
   clear hd hin
   go_wp2_with fail
   refine zR 29 (S := fun W => W.cell? ⟨b, off, none⟩ = some (.int .i64 x)) (by kernel_rfl) (by kernel_rfl) rfl (HS.out _ ((Below.refl wr.heap.size wr).drew)) (fun hHeld => ?_)
   try simp only [List.reduceReplicate]
   repeat refine takeA [] (h := ?_)
   refine wpAnyH_done (by kernel_rfl) ?_ _
   clear hHeld
   go_wp2
   go_roundw
   case rel => exact ⟨1, by go_num, by omega, HD.out.1.symm, HD.out.2.drew⟩
   case measure => simp [intOf]; omega
  obtain ⟨p, hp⟩ : ∃ p, p = k - 1 := ⟨_, rfl⟩
  have hxj := List.getElem?_eq_getElem (show p < l.length by omega)
  generalize l[p] = u at hxj
  obtain ⟨b', off', e2, _, hc'⟩ := rd_at (HR.out.below HBW.out) hxj
  obtain ⟨rfl, rfl⟩ : b = b' ∧ off = off' := by simpa using e2
  have q1 : wr.cell? ⟨b, off + p, none⟩ = some (.int .i64 u) := by have := hc' 0 _ rfl; simpa using this
  have hd : placesFrom n none l = (decide (u < x) && placesFrom n (prevAt l (k + 1)) (l.drop (k + 1))) := by rw [hd]; simp [prevAt, hk, ← hp, hxj]
  have hpos : (0 : Int) < (k : Int) := by omega
  have hpos' : 0 < k := by omega
  have hwp : IntKind.i64.wrap ((k : Int) - 1) = (p : Int) := by rw [Go.IntWalk.i64_in _ (by omega)]; omega
  have n2 : (p : Int) < (l.length : Int) := by omega
  have HSJ := zH (show ∀ W, Below wr.heap.size wr W → W.cell? ⟨b, off + k, none⟩ = some (.int .i64 x) ∧ W.cell? ⟨b, off + p, none⟩ = some (.int .i64 u) from fun W hW => ⟨HS.out W hW, zB hW q1⟩)
  clear hin hc' hxj q1 hk hp
  by_cases hux : u < x
  ·have hux' : decide (x ≤ u) = false := decide_eq_false (by omega)
   have HD := zH (zA (show placesFrom n none l = placesFrom n (prevAt l (k + 1)) (l.drop (k + 1)) by rw [hd, decide_eq_true hux, Bool.true_and]) HBW.out)
   clear hd hux
   go_wp2_with fail
   refine zR 29 (S := fun W => W.cell? ⟨b, off + k, none⟩ = some (.int .i64 x) ∧ W.cell? ⟨b, off + p, none⟩ = some (.int .i64 u)) (by kernel_rfl) (by kernel_rfl) rfl (HSJ.out _ ((Below.refl wr.heap.size wr).drew)) (fun hHeld => ?_)
   try simp only [List.reduceReplicate]
   repeat refine takeA [] (h := ?_)
   refine wpAnyH_done (by kernel_rfl) ?_ _
   clear hHeld
   clear hwp hpos hpos' n2
   go_wp2
   go_roundw
   case rel => exact ⟨k + 1, by go_num, by omega, HD.out.1.symm, HD.out.2.drew⟩
   case measure => simp [intOf]; omega
  ·have hux' : decide (x ≤ u) = true := decide_eq_true (by omega)
   have HD := zH (zA (show placesFrom n none l = false by rw [hd, decide_eq_false hux, Bool.false_and]) HBW.out)
   clear hd hux
   go_wp2_with fail
   refine zR 29 (S := fun W => W.cell? ⟨b, off + k, none⟩ = some (.int .i64 x) ∧ W.cell? ⟨b, off + p, none⟩ = some (.int .i64 u)) (by kernel_rfl) (by kernel_rfl) rfl (HSJ.out _ ((Below.refl wr.heap.size wr).drew)) (fun hHeld => ?_)
   try simp only [List.reduceReplicate]
   repeat refine takeA [] (h := ?_)
   refine wpAnyH_done (by kernel_rfl) ?_ _
   clear hHeld
   go_wp2
   go_ret
   exact ⟨ret_bool HD.out.1.symm, HD.out.2.drew⟩
end
end Go.Proofs.YtgiploddoffmjaaGreat
