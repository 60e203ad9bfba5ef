/- My texts, joined: W92, N11, N27, W61, W65. -/
import Derived.Below
import Derived.BigQuiet
import Derived.ChangeKeysEq
import Derived.Deep.AppendLies
import Derived.Deep.CutBlock
import Derived.Deep.DeepCutAuto
import Derived.Deep.LoopGhost
import Derived.Deep.QuietTactic
import Derived.Deep.RegionHeld
import Derived.Deep.RegionHeld3
import Derived.Deep.RegionLaw
import Derived.Defers
import Derived.Ground.Names2Prog
import Derived.Ground.Names8Prog
import Derived.Ground.SlsfProg
import Derived.Handy
import Derived.KernelRfl
import Derived.Laws.AppendOwn
import Derived.Laws.AppendOwnNone
import Derived.Laws.CopyRow
import Derived.Laws.Pointers
import Derived.Laws.StructEq
import Derived.Lib.Hide
import Derived.Lib.Overlaps
import Derived.LoopIn
import Derived.LoopN
import Derived.LoopNIn
import Derived.LoopTactic
import Derived.MapKept
import Derived.Maps.AppendAt
import Derived.Maps.OwnOps
import Derived.Maps.RangeRun
import Derived.Maps.RangeWalk
import Derived.Outline
import Derived.OwnWalk
import Derived.OwnWalkIn
import Derived.RangeFuncBound
import Derived.RangeFuncCalls
import Derived.RangeFuncLeaves
import Derived.RangeFuncNested
import Derived.Recover
import Derived.Shelf.Abstract
import Derived.Shelf.RegionOpen
import Derived.Shelf.SlGeneric
import Derived.Shelf.SlLaysF0
import Derived.Shelf.SlSortCmp.HeapSort1
import Derived.Shelf.SlSortCmp.Insertion
import Derived.Shelf.SlSortCmp.Insertion1
import Derived.Shelf.SlSortCmp.Median1
import Derived.Shelf.SlSortCmp.NoneTotal
import Derived.Shelf.SlSortCmp.PartialInsertion1
import Derived.Shelf.SlSortCmp.Partition1
import Derived.Shelf.SlSortCmp.PartitionEqual1
import Derived.Shelf.SlSortCmp.Pdq1
import Derived.Shelf.SlSortCmp.Pivot1
import Derived.Shelf.SlSortCmp.ReverseRange1
import Derived.Shelf.SlSortCmp.SiftDown1
import Derived.Shelf.SlSortCmp.Whole1
import Derived.Shelf.SlSortCmp.WholeK
import Derived.Shelf.Slices.In.SortNone
import Derived.Shelf.Small.Bits
import Derived.Shelf.Sort.Plain
import Derived.Shelf.Spec.SlicesGrow
import Derived.TacticsInMore
import Derived.Test.YtgiploddoffmjaaGreatProg
import Derived.WalkKit
import Derived.WalkLawsBesides
import Derived.WalkSpells
import Derived.Test.YtgiploddoffmjaaGreatM0
import Derived.Test.YtgiploddoffmjaaGreatM1
import Derived.Test.YtgiploddoffmjaaGreatM2
import Derived.Test.YtgiploddoffmjaaGreatM3
import Derived.Test.YtgiploddoffmjaaGreatM4
import Derived.Test.YtgiploddoffmjaaGreatM5
import Derived.Test.YtgiploddoffmjaaGreatM6
import Derived.Test.YtgiploddoffmjaaGreatM7
import Derived.Test.YtgiploddoffmjaaGreatM8
import Derived.Test.YtgiploddoffmjaaGreatM9
import Derived.Test.YtgiploddoffmjaaGreatM10
import Derived.Test.YtgiploddoffmjaaGreatM11
import Derived.Test.YtgiploddoffmjaaGreatM12
import Derived.Test.YtgiploddoffmjaaGreatM13
import Derived.Test.YtgiploddoffmjaaGreatM14
import Derived.Test.YtgiploddoffmjaaGreatM18
import Derived.Test.YtgiploddoffmjaaGreatM19
import Derived.Test.YtgiploddoffmjaaGreatM20
import Derived.Test.YtgiploddoffmjaaGreatM21
import Derived.Test.YtgiploddoffmjaaGreatM22
import Derived.Test.YtgiploddoffmjaaGreatM23
import Derived.Test.YtgiploddoffmjaaGreatM24
import Derived.Test.YtgiploddoffmjaaGreatM25
import Derived.Test.YtgiploddoffmjaaGreatM26
import Derived.Test.YtgiploddoffmjaaGreatXMatchMachine1
import Derived.Test.YtgiploddoffmjaaGreatXMatchMachine2
import Derived.Test.YtgiploddoffmjaaGreatXMatchMachine3
import Derived.Test.YtgiploddoffmjaaGreatXMatchMachine4
set_option linter.unusedVariables false
set_option linter.unusedSimpArgs false
set_option linter.unusedSectionVars false
set_option maxRecDepth 10000
namespace Go.Proofs.YtgiploddoffmjaaGreat
section
open Go.RowKit Go.Shelf
structure Sorted (m : List (List Int)) (many : Nat) : Prop where
 row : ∀ x ∈ m, x ≠ [] ∧ x.Pairwise (· < ·) ∧ ∀ z ∈ x, 0 ≤ z ∧ z < many
 ord : ∀ (i : Nat) x y, m[i]? = some x → m[i + 1]? = some y → ordL x y < 0
theorem Sorted.small {m : List (List Int)} {many : Nat} (h : Sorted m many) (hm : many ≤ 1000) : ∀ x ∈ m, smallL x := fun x hx z hz => by
 have := (h.row x hx).2.2 z hz
 omega
set_option maxRecDepth 100000 in
set_option maxHeartbeats 8000000 in
theorem sorted_good (v : Value) (m : List (List Int)) (many : Nat) (hm : many ≤ 1000) (w : World) (hr : RdLL w v m) (hs : Sorted m many) :
 Calls Tryz.prog 29 #[v, .int .i64 many] w fun e w' => e = .returned (.bool true) ∧ Below w.heap.size w w' := by
 obtain ⟨⟨a, c, rfl⟩, hl63⟩ := hr.form
 have HR := zH hr
 have HS := zH hs
 have HB := zH (Below.refl w.heap.size w)
 clear hr hs
 go_enter Tryz.func29, Tryz.ntmps29
 go_wp2
 go_loopw [11] (fun i W => ∃ n : Nat, i = .int .i64 n ∧ n ≤ m.length ∧ Below w.heap.size w W) (fun i _ => m.length - (intOf i).toNat)
 case atStart => exact ⟨0, rfl, by omega, HB.out⟩
 case round =>
  obtain ⟨n, rfl, hn, hB⟩ := hrel
  by_cases hlt : n < m.length
  rotate_left
  ·obtain rfl : n = m.length := by omega
   have HG := zH hB
   clear hB
   go_wp2
   go_ret
   exact ⟨rfl, HG.out⟩
  have hx := List.getElem?_eq_getElem hlt
  generalize m[n] = x at hx
  obtain ⟨b, off, ax, cx, rfl, q0, rx⟩ := (HR.out.below hB).at hx
  have hxm := List.mem_of_getElem? hx
  obtain ⟨x1, x2, x3⟩ := HS.out.row x hxm
  have hxl : 0 < x.length := List.length_pos_iff.2 x1
  have hx63 := rx.1
  have g0 : ((x.length : Int) == 0) = false := beq_eq_false_iff_ne.2 (by omega)
  have n1 : (n : Int) < (m.length : Int) := by omega
  have HX := zH (zA hB (zA hx (zA rx (zA x2 (zA x3 hxm)))))
  have hB0 := hB
  clear hB hx rx x1 x2 x3 hxm
  obtain ⟨wA, hA⟩ : ∃ W, W = wr := ⟨_, rfl⟩
  subst hA
  by_cases hn0 : n = 0
  ·subst hn0
   have q1 : wA.cell? ⟨b, off, none⟩ = some (.slice ax x.length cx) := q0
   clear hB0
   go_wp2
   go_loopw [35] (fun i W => ∃ k : Nat, i = .int .i64 k ∧ k ≤ x.length ∧ Below wA.heap.size wA W) (fun i _ => x.length - (intOf i).toNat)
   case atStart => exact ⟨0, rfl, by omega, Below.refl _ _⟩
   case round =>
    obtain ⟨k, rfl, hk, hB2⟩ := hrel
    by_cases hkx : k < x.length
    rotate_left
    ·have HB2 := zH hB2
     clear hB2
     go_wp2
     go_roundw
     case rel => exact ⟨0 + 1, by go_num, by omega, HX.out.1.trans (HB2.out.mono HX.out.1.size)⟩
     case measure => simp [intOf]; omega
    have hz := List.getElem?_eq_getElem hkx
    generalize x[k] = z at hz
    have hzb := HX.out.2.2.2.2.1 z (List.mem_of_getElem? hz)
    obtain ⟨bx, ox, rfl, _, hcz⟩ := rd_at ((HX.out.2.2.1).below hB2) hz
    have r0 : wr.cell? ⟨bx, ox + k, none⟩ = some (.int .i64 z) := by have := hcz 0 _ rfl; simpa using this
    have m1 : (k : Int) < (x.length : Int) := by omega
    have k0 : decide (z < 0) = false := decide_eq_false (by omega)
    have k1 : decide ((many : Int) ≤ z) = false := decide_eq_false (by omega)
    by_cases hk0 : k = 0
    ·subst hk0
     have r1 : wr.cell? ⟨bx, ox, none⟩ = some (.int .i64 z) := r0
     have HB2 := zH hB2
     clear hB2 hz hcz hzb
     go_wp2
     go_roundw
     case rel => exact ⟨1, by go_num, by omega, HB2.out⟩
     case measure => simp [intOf]; omega
    obtain ⟨j, hj⟩ : ∃ j, j = k - 1 := ⟨_, rfl⟩
    have hu := List.getElem?_eq_getElem (show j < x.length by omega)
    generalize x[j] = u at hu
    obtain ⟨b2, o2, e3, _, hcu⟩ := rd_at ((HX.out.2.2.1).below hB2) hu
    obtain ⟨rfl, rfl⟩ : bx = b2 ∧ ox = o2 := by simpa using e3
    have r1 : wr.cell? ⟨bx, ox + j, none⟩ = some (.int .i64 u) := by have := hcu 0 _ rfl; simpa using this
    have huz : u < z := by
     obtain ⟨h1, e1⟩ := List.getElem?_eq_some_iff.1 hu
     obtain ⟨h2, e2⟩ := List.getElem?_eq_some_iff.1 hz
     rw [← e1, ← e2]
     exact List.pairwise_iff_getElem.1 HX.out.2.2.2.1 j k h1 h2 (by omega)
    have k2 : decide (z ≤ u) = false := decide_eq_false (by omega)
    have hwj : IntKind.i64.wrap ((k : Int) - 1) = (j : Int) := by rw [Go.IntWalk.i64_in _ (by omega)]; omega
    have m2 : (j : Int) < (x.length : Int) := by omega
    have m3 : (0 : Int) < (k : Int) := by omega
    have HB2 := zH hB2
    clear hB2 hz hcz hzb hu hcu huz hj hk0
    go_wp2
    go_roundw
    case rel => first | exact ⟨k + 1, by go_num, by omega, HB2.out⟩ | exact ⟨_, _, _, _, ⟨k + 1, rfl, by omega, HB2.out⟩, rfl, rfl, rfl, by go_num⟩
    case measure => simp [intOf]; omega
  obtain ⟨p, hp⟩ : ∃ p, p = n - 1 := ⟨_, rfl⟩
  have hxp := List.getElem?_eq_getElem (show p < m.length by omega)
  generalize m[p] = y at hxp
  obtain ⟨b', off', ay, cy, e2, q1, ry⟩ := (HR.out.below hB0).at hxp
  obtain ⟨rfl, rfl⟩ : b = b' ∧ off = off' := by simpa using e2
  have hord := HS.out.ord p y x hxp (by rw [show p + 1 = n by omega]; exact HX.out.2.1)
  have hO := refOrder_any _ _ y x wA ry HX.out.2.2.1 (HS.out.small hm y (List.mem_of_getElem? hxp)) (HS.out.small hm x HX.out.2.2.2.2.2)
  obtain ⟨o, ho⟩ : ∃ o, o = ordL y x := ⟨_, rfl⟩
  rw [← ho] at hO hord
  have HO := zH hO
  have g1 : decide (0 ≤ o) = false := decide_eq_false (by omega)
  have hwp : IntKind.i64.wrap ((n : Int) - 1) = (p : Int) := by rw [Go.IntWalk.i64_in _ (by omega)]; omega
  have n2 : (p : Int) < (m.length : Int) := by omega
  have n3 : (0 : Int) < (n : Int) := by omega
  clear hO hord ho hxp ry hp hn0 hB0
  go_wp2_with (go_at_call 28; refine HO.out.mono ?_; rintro e w3 ⟨rfl, hb3⟩; have H3 := zH (HX.out.1.trans (hb3.mono HX.out.1.size)); have H4 := zH hb3; clear hb3)
  clear g1 hwp n2 n3 q0 q1
  go_loopw [35] (fun i W => ∃ k : Nat, i = .int .i64 k ∧ k ≤ x.length ∧ Below w3.heap.size w3 W) (fun i _ => x.length - (intOf i).toNat)
  case atStart => exact ⟨0, rfl, by omega, Below.refl _ _⟩
  case round =>
   obtain ⟨k, rfl, hk, hB2⟩ := hrel
   by_cases hkx : k < x.length
   rotate_left
   ·have HB2 := zH hB2
    clear hB2
    go_wp2
    go_roundw
    case rel => exact ⟨n + 1, by go_num, by omega, H3.out.trans (HB2.out.mono H3.out.size)⟩
    case measure => simp [intOf]; omega
   have hz := List.getElem?_eq_getElem hkx
   generalize x[k] = z at hz
   have hzb := HX.out.2.2.2.2.1 z (List.mem_of_getElem? hz)
   obtain ⟨bx, ox, rfl, _, hcz⟩ := rd_at ((HX.out.2.2.1.below H4.out).below hB2) hz
   have r0 : wr.cell? ⟨bx, ox + k, none⟩ = some (.int .i64 z) := by have := hcz 0 _ rfl; simpa using this
   have m1 : (k : Int) < (x.length : Int) := by omega
   have k0 : decide (z < 0) = false := decide_eq_false (by omega)
   have k1 : decide ((many : Int) ≤ z) = false := decide_eq_false (by omega)
   by_cases hk0 : k = 0
   ·subst hk0
    have r1 : wr.cell? ⟨bx, ox, none⟩ = some (.int .i64 z) := r0
    have HB2 := zH hB2
    clear hB2 hz hcz hzb
    go_wp2
    go_roundw
    case rel => exact ⟨1, by go_num, by omega, HB2.out⟩
    case measure => simp [intOf]; omega
   obtain ⟨j, hj⟩ : ∃ j, j = k - 1 := ⟨_, rfl⟩
   have hu := List.getElem?_eq_getElem (show j < x.length by omega)
   generalize x[j] = u at hu
   obtain ⟨b2, o2, e3, _, hcu⟩ := rd_at ((HX.out.2.2.1.below H4.out).below hB2) hu
   obtain ⟨rfl, rfl⟩ : bx = b2 ∧ ox = o2 := by simpa using e3
   have r1 : wr.cell? ⟨bx, ox + j, none⟩ = some (.int .i64 u) := by have := hcu 0 _ rfl; simpa using this
   have huz : u < z := by
    obtain ⟨h1, e1⟩ := List.getElem?_eq_some_iff.1 hu
    obtain ⟨h2, e2⟩ := List.getElem?_eq_some_iff.1 hz
    rw [← e1, ← e2]
    exact List.pairwise_iff_getElem.1 HX.out.2.2.2.1 j k h1 h2 (by omega)
   have k2 : decide (z ≤ u) = false := decide_eq_false (by omega)
   have hwj : IntKind.i64.wrap ((k : Int) - 1) = (j : Int) := by rw [Go.IntWalk.i64_in _ (by omega)]; omega
   have m2 : (j : Int) < (x.length : Int) := by omega
   have m3 : (0 : Int) < (k : Int) := by omega
   have HB2 := zH hB2
   clear hB2 hz hcz hzb hu hcu huz hj hk0
   go_wp2
   go_roundw
   case rel => first | exact ⟨k + 1, by go_num, by omega, HB2.out⟩ | exact ⟨_, _, _, _, ⟨k + 1, rfl, by omega, HB2.out⟩, rfl, rfl, rfl, by go_num⟩
   case measure => simp [intOf]; omega
end
section
def seg (m : List Int) (i k : Nat) : List Int := (m.take k).drop i
section
variable {l : List Ev} {m : List Int}
theorem seg_append {i j k : Nat} (h1 : i ≤ j) (h2 : j ≤ k) : seg m i j ++ seg m j k = seg m i k := by
 unfold seg
 have e : m.take j = (m.take k).take j := by rw [List.take_take, Nat.min_eq_left h2]
 rw [e]
 generalize m.take k = s
 rw [List.drop_take]
 have := List.take_append_drop (j - i) (s.drop i)
 rw [List.drop_drop, show i + (j - i) = j by omega] at this
 exact this
theorem seg_split {i k : Nat} {x y : List Int} (hik : i ≤ k) (hk : k ≤ m.length) (h : seg m i k = x ++ y) : x = seg m i (i + x.length) ∧ y = seg m (i + x.length) k ∧ i + x.length ≤ k := by
 have hlen : (seg m i k).length = k - i := by unfold seg; rw [List.length_drop, List.length_take]; omega
 have hl : x.length + y.length = k - i := by rw [← hlen, h, List.length_append]
 have ha := seg_append (m := m) (i := i) (j := i + x.length) (k := k) (by omega) (by omega)
 rw [h] at ha
 have hlx : (seg m i (i + x.length)).length = x.length := by unfold seg; rw [List.length_drop, List.length_take]; omega
 obtain ⟨e1, e2⟩ := List.append_inj ha hlx
 exact ⟨e1.symm, e2.symm, by omega⟩
theorem seg_one {i : Nat} (h : i < m.length) : seg m i (i + 1) = [numAt m i] := by
 unfold seg numAt
 rw [List.drop_take, show i + 1 - i = 1 by omega, List.getElem?_eq_getElem h, Option.getD_some, List.drop_eq_getElem_cons h]
 rfl
theorem seg_last {i j : Nat} (hij : i < j) (hj : j ≤ m.length) : lastI (seg m i j) = numAt m (j - 1) := by
 have h := seg_append (m := m) (i := i) (j := j - 1) (k := j) (by omega) (by omega)
 have h1 := seg_one (m := m) (i := j - 1) (by omega)
 rw [show j - 1 + 1 = j by omega] at h1
 rw [← h, h1, lastI_append (by simp)]
 rfl
theorem seg_head {j k : Nat} (hjk : j < k) (hk : k ≤ m.length) : headI (seg m j k) = numAt m j := by
 have h := seg_append (m := m) (i := j) (j := j + 1) (k := k) (by omega) (by omega)
 rw [← h, seg_one (by omega)]
 rfl
theorem seg_ne {i k : Nat} (h : seg m i k ≠ []) : i < k := by
 unfold seg at h
 rcases Nat.lt_or_ge i k with h1 | h1
 ·exact h1
 ·exact absurd (List.drop_eq_nil_of_le (by rw [List.length_take]; omega)) h
theorem any_betw {i k : Nat} {q : Nat → Bool} : (betw i k).any q = true ↔ ∃ j, i < j ∧ j < k ∧ q j = true := by
 rw [List.any_eq_true]
 constructor
 ·rintro ⟨j, hj, hq⟩; have := mem_betw.1 hj; exact ⟨j, this.1, this.2, hq⟩
 ·rintro ⟨j, h1, h2, hq⟩; exact ⟨j, mem_betw.2 ⟨h1, h2⟩, hq⟩
theorem isP_lang (hm : ∀ x ∈ m, 0 ≤ x ∧ x < l.length) : ∀ (p : Form) (i k : Nat), k ≤ m.length → (isP l m p i k = true ↔ Lang l p (seg m i k))
 | .one t, i, k, hk => by
  rw [isP]
  simp only [Bool.and_eq_true, decide_eq_true_eq]
  constructor
  ·rintro ⟨rfl, h⟩
   rw [seg_one (by omega)]
   have := hm (numAt m i) (by unfold numAt; rw [List.getElem?_eq_getElem (show i < m.length by omega)]; exact List.getElem_mem _)
   exact .one this.1 this.2 h
  ·intro h
   have hlen : (seg m i k).length = k - i := by unfold seg; rw [List.length_drop, List.length_take]; omega
   generalize hs : seg m i k = s at h
   cases h with
   | one h0 h1 h2 =>
    have hik := seg_ne (m := m) (i := i) (k := k) (by rw [hs]; simp)
    rw [hs] at hlen
    simp at hlen
    obtain rfl : k = i + 1 := by omega
    rw [seg_one (by omega)] at hs
    injection hs with hs
    exact ⟨rfl, by rw [hs]; exact h2⟩
 | .or a b, i, k, hk => by
  rw [isP, Bool.or_eq_true, isP_lang hm a i k hk, isP_lang hm b i k hk]
  constructor
  ·rintro (h | h)
   ·exact .orl h
   ·exact .orr h
  ·intro h
   cases h with
   | orl h => exact .inl h
   | orr h => exact .inr h
 | .thn n a b, i, k, hk => by
  rw [isP, any_betw]
  constructor
  ·rintro ⟨j, h1, h2, hq⟩
   simp only [Bool.and_eq_true] at hq
   obtain ⟨⟨q1, q2⟩, q3⟩ := hq
   rw [← seg_append (m := m) (i := i) (j := j) (k := k) (by omega) (by omega)]
   refine .thn ((isP_lang hm a i j (by omega)).1 q2) ((isP_lang hm b j k hk).1 q3) ?_
   rw [seg_last h1 (by omega), seg_head h2 hk]
   exact q1
  ·intro h
   generalize hs : seg m i k = s at h
   cases h with
   | thn ha hb hl =>
    rename_i x y
    have hx := (lang_inc ha).1
    have hy := (lang_inc hb).1
    have hik := seg_ne (m := m) (i := i) (k := k) (by rw [hs]; simp [hx])
    obtain ⟨e1, e2, h3⟩ := seg_split (by omega) hk hs
    have hx0 := List.length_pos_iff.2 hx
    have hjk := seg_ne (m := m) (i := i + x.length) (k := k) (by rw [← e2]; exact hy)
    refine ⟨i + x.length, by omega, hjk, ?_⟩
    simp only [Bool.and_eq_true]
    rw [isP_lang hm a i _ (by omega), isP_lang hm b _ k hk, ← e1, ← e2]
    refine ⟨⟨?_, ha⟩, hb⟩
    unfold linkAt
    rw [← seg_last (m := m) (i := i) (by omega) (by omega), ← seg_head hjk hk, ← e1, ← e2]
    exact hl
 | .lack n a t b, i, k, hk => by
  rw [isP, any_betw]
  constructor
  ·rintro ⟨j, h1, h2, hq⟩
   simp only [Bool.and_eq_true] at hq
   obtain ⟨⟨q1, q2⟩, q3⟩ := hq
   rw [← seg_append (m := m) (i := i) (j := j) (k := k) (by omega) (by omega)]
   refine .lack ((isP_lang hm a i j (by omega)).1 q2) ((isP_lang hm b j k hk).1 q3) ?_
   rw [seg_last h1 (by omega), seg_head h2 hk]
   exact q1
  ·intro h
   generalize hs : seg m i k = s at h
   cases h with
   | lack ha hb hl =>
    rename_i x y
    have hx := (lang_inc ha).1
    have hy := (lang_inc hb).1
    have hik := seg_ne (m := m) (i := i) (k := k) (by rw [hs]; simp [hx])
    obtain ⟨e1, e2, h3⟩ := seg_split (by omega) hk hs
    have hx0 := List.length_pos_iff.2 hx
    have hjk := seg_ne (m := m) (i := i + x.length) (k := k) (by rw [← e2]; exact hy)
    refine ⟨i + x.length, by omega, hjk, ?_⟩
    simp only [Bool.and_eq_true]
    rw [isP_lang hm a i _ (by omega), isP_lang hm b _ k hk, ← e1, ← e2]
    refine ⟨⟨?_, ha⟩, hb⟩
    unfold linkAt
    rw [← seg_last (m := m) (i := i) (by omega) (by omega), ← seg_head hjk hk, ← e1, ← e2]
    exact hl
 | .many n a, i, k, hk => by
  have main : ∀ (d i : Nat), k - i ≤ d → (isP l m (.many n a) i k = true ↔ Lang l (.many n a) (seg m i k)) := by
   intro d
   induction d with
   | zero =>
    intro i hd
    rw [isP_empty l m _ i k (by omega)]
    constructor
    ·intro h; cases h
    ·intro h; have := seg_ne (lang_inc h).1; omega
   | succ d ih =>
    intro i hd
    rw [isP_many, Bool.or_eq_true, isP_lang hm a i k hk, any_betw]
    constructor
    ·rintro (h | ⟨j, h1, h2, hq⟩)
     ·exact .once h
     ·simp only [Bool.and_eq_true] at hq
      obtain ⟨⟨q1, q2⟩, q3⟩ := hq
      rw [← seg_append (m := m) (i := i) (j := j) (k := k) (by omega) (by omega)]
      refine .more ((isP_lang hm a i j (by omega)).1 q2) ((ih j (by omega)).1 q3) ?_
      rw [seg_last h1 (by omega), seg_head h2 hk]
      exact q1
    ·intro h
     generalize hs : seg m i k = s at h
     cases h with
     | once h => exact .inl h
     | more ha hb hl =>
      rename_i x y
      have hx := (lang_inc ha).1
      have hy := (lang_inc hb).1
      have hik := seg_ne (m := m) (i := i) (k := k) (by rw [hs]; simp [hx])
      obtain ⟨e1, e2, h3⟩ := seg_split (by omega) hk hs
      have hx0 := List.length_pos_iff.2 hx
      have hjk := seg_ne (m := m) (i := i + x.length) (k := k) (by rw [← e2]; exact hy)
      refine .inr ⟨i + x.length, by omega, hjk, ?_⟩
      simp only [Bool.and_eq_true]
      rw [isP_lang hm a i _ (by omega), ih _ (by omega), ← e1, ← e2]
      refine ⟨⟨?_, ha⟩, hb⟩
      unfold linkAt
      rw [← seg_last (m := m) (i := i) (by omega) (by omega), ← seg_head hjk hk, ← e1, ← e2]
      exact hl
  exact main (k - i) i (Nat.le_refl _)
end
end
section
theorem places_of {n : Int} : ∀ {l : List Int} {p : Option Int}, (∀ v ∈ l, 0 ≤ v ∧ v < n) → l.Pairwise (· < ·) → (∀ u, p = some u → ∀ v ∈ l, u < v) → placesFrom n p l = true
 | [], _, _, _, _ => rfl
 | v :: l, p, h1, h2, h3 => by
  have hv := h1 v List.mem_cons_self
  have ih := places_of (p := some v) (fun u hu => h1 u (List.mem_cons_of_mem _ hu)) (List.pairwise_cons.1 h2).2 (fun u hu => by injection hu with hu; subst hu; exact (List.pairwise_cons.1 h2).1)
  unfold placesFrom inP
  rw [ih, decide_eq_true hv.1, decide_eq_true (show v ≤ n - 1 by omega)]
  cases p with
  | none => rfl
  | some u => simp only [Bool.true_and, Bool.and_true]; exact decide_eq_true (h3 u rfl v List.mem_cons_self)
theorem edges_of {srcs n : Int} : ∀ {l : List Edge} {p : Option Edge}, (∀ e ∈ l, edgeGood srcs n e = true) → sortedO edgeOrd l → (∀ u, p = some u → ∀ v ∈ l, edgeOrd u v < 0) → edgesFrom srcs n p l = true
 | [], _, _, _, _ => rfl
 | v :: l, p, h1, h2, h3 => by
  have ih := edges_of (p := some v) (fun u hu => h1 u (List.mem_cons_of_mem _ hu)) (List.pairwise_cons.1 h2).2 (fun u hu => by injection hu with hu; subst hu; exact (List.pairwise_cons.1 h2).1)
  unfold edgesFrom
  rw [ih, h1 v List.mem_cons_self]
  cases p with
  | none => rfl
  | some u => simp only [Bool.true_and, Bool.and_true]; exact decide_eq_true (h3 u rfl v List.mem_cons_self)
theorem query_parts {srcs near : Int} {x : Node} (hq : queryP srcs x near = true) : (1 ≤ srcs ∧ srcs ≤ 4) ∧ patP srcs x.op x.t x.n x.ks = true ∧ inP near 0 200 = true := by
 unfold queryP at hq
 simp only [Bool.and_eq_true] at hq
 refine ⟨?_, hq.1.2, hq.2⟩
 have := hq.1.1
 unfold inP at this
 simp only [Bool.and_eq_true, decide_eq_true_eq] at this
 exact this
theorem autoP_good {srcs near : Int} {x : Node} (hq : queryP srcs x near = true) : isAutoP srcs (autoP x) = true := by
 obtain ⟨hs, hp, _⟩ := query_parts hq
 have h1 := makeP_places (formOf x) 0
 have h2 := makeP_size (formOf x) 0
 have h3 := shape_small hp
 have hsh := formOf_shape hp
 have hpp := hp
 unfold patP at hpp
 simp only [Bool.and_eq_true, decide_eq_true_eq] at hpp
 have h4 := makeP_testsOk srcs (formOf x) x.op x.t x.n x.ks 0 hsh hpp.1.1.1 hpp.1.1.2
 have h5 := autoP_edges hp
 have e1 : decide ((autoP x).tests.length ≤ 12) = true := decide_eq_true (by show (makeP (formOf x) 0).tests.length ≤ 12; omega)
 have e2 : ((autoP x).tests.any fun t => !isTestP t srcs) = false := List.any_eq_false.2 fun t ht => by rw [h4 t ht]; decide
 have e3 : placesFrom (autoP x).tests.length none (autoP x).first = true := places_of (fun v hv => by have := h1.1 v hv; exact ⟨by omega, by show v < ((makeP (formOf x) 0).tests.length : Int); omega⟩) h1.2.2.1 (by simp)
 have e4 : placesFrom (autoP x).tests.length none (autoP x).last = true := places_of (fun v hv => by have := h1.2.1 v hv; exact ⟨by omega, by show v < ((makeP (formOf x) 0).tests.length : Int); omega⟩) h1.2.2.2 (by simp)
 have e5 : edgesFrom srcs (autoP x).tests.length none (autoP x).follow = true := edges_of (fun e he => by
  have he' : e ∈ (makeP (formOf x) 0).follow := (mem_setO edgeOrd_laws _ _).1 he
  obtain ⟨⟨g1, g2⟩, g3, g4⟩ := h5 e he'
  unfold edgeGood inP
  simp only [Bool.and_eq_true, decide_eq_true_eq]
  refine ⟨⟨⟨⟨g3.1, ?_⟩, g4.1, ?_⟩, g1⟩, ?_⟩
  ·show e.from_ ≤ ((makeP (formOf x) 0).tests.length : Int) - 1; omega
  ·show e.to_ ≤ ((makeP (formOf x) 0).tests.length : Int) - 1; omega
  ·rcases g2 with ⟨a, b⟩ | ⟨a, b⟩
   ·rw [a, if_pos rfl]; exact b
   ·rw [a, if_neg (by decide), b]; exact decide_eq_true rfl) (setO_sorted edgeOrd_laws _) (by simp)
 unfold isAutoP
 rw [e1, e2, e3, e4, e5]
 rfl
def tau (a : Auto) (p : Int) : Test := (a.tests[p.toNat]?).getD zeroT
theorem run_lt {l : List Ev} {τ : Int → Test} {F : List Int} {E : List Edge} {x : List Int} {q : Int} (h : Run l τ F E x q) : 0 ≤ lastI x ∧ lastI x < l.length := by
 cases h with
 | start h1 h2 h3 h4 => exact ⟨h2, h3⟩
 | step _ h1 h2 h3 h4 h5 h6 => rw [lastI_append (by simp)]; exact ⟨h3, h4⟩
theorem run_mem {a : Auto} {l : List Ev} : ∀ (n : Nat) (own : List Beg), n ≤ l.length → runFrom a l n 0 [] = some own → ∀ x q, (x, q) ∈ own ↔ Run l (tau a) a.first a.follow x q ∧ lastI x < n
 | 0, own, _, h, x, q => by
  injection h with h
  subst h
  refine ⟨fun h => by simp at h, fun ⟨h1, h2⟩ => ?_⟩
  have := run_lt h1
  omega
 | n + 1, own, hn, h, x, q => by
  cases hm : runFrom a l n 0 [] with
  | none => rw [runFrom_none a l (Nat.le_succ n) hm] at h; cases h
  | some o =>
   rw [runFrom_one a l n o hm] at h
   have ih := run_mem n o (by omega) hm
   unfold stepB at h
   dsimp only at h
   split at h
   rotate_left
   ·cases h
   injection h with h
   subst h
   rw [List.mem_append, mem_dedupB, ih, candB, List.mem_append]
   simp only [List.mem_map, List.mem_filter, List.mem_flatMap, Prod.mk.injEq]
   constructor
   ·rintro (⟨h1, h2⟩ | ⟨f, ⟨hf, hh⟩, rfl, rfl⟩ | ⟨⟨y, p⟩, hy, e, ⟨he, hok⟩, rfl, rfl⟩)
    ·exact ⟨h1, by omega⟩
    ·exact ⟨.start hf (by omega) (by omega) hh, by show ((n : Int)) < _; omega⟩
    ·unfold edgeOk at hok
     simp only [Bool.and_eq_true, decide_eq_true_eq] at hok
     obtain ⟨⟨k1, k2⟩, k3⟩ := hok
     exact ⟨.step ((ih y p).1 hy).1 he k1 (by omega) (by omega) k2 k3, by rw [lastI_append (by simp)]; show ((n : Int)) < _; omega⟩
   ·rintro ⟨h1, h2⟩
    by_cases hl : lastI x < n
    ·exact .inl ⟨h1, hl⟩
    ·right
     have hln : lastI x = n := by omega
     cases h1 with
     | @start i _ k1 k2 k3 k4 =>
      have hi : i = (n : Int) := hln
      subst hi
      exact .inl ⟨q, ⟨k1, k4⟩, rfl, rfl⟩
     | @step y p i e k0 k1 k2 k3 k4 k5 k6 =>
      rw [lastI_append (by simp)] at hln
      have hi : i = (n : Int) := hln
      subst hi
      right
      have := link_lt k6
      exact ⟨(y, p), (ih y p).2 ⟨k0, this⟩, e, ⟨k1, by unfold edgeOk; simp only [Bool.and_eq_true, decide_eq_true_eq]; exact ⟨⟨k2, k5⟩, k6⟩⟩, rfl, rfl⟩
theorem nearP_asked {srcs : Int} {l : List Ev} (he : eventsP srcs l = true) {z : List Int} (hz : incI l z) (near : Int) (same : Bool) : nearP l z near same = askedP l z near same :=
 near_asked he hz.1 (fun i hi => ⟨(hz.2.2 i hi).1, incI_last hz.2.1 i hi, (hz.2.2 i hi).2⟩) near same
theorem run_spec {srcs near : Int} {x : Node} {same : Bool} {l : List Ev} (hq : queryP srcs x near = true) (he : eventsP srcs l = true) {m : List (List Int)} (h : runP (autoP x) near same l = some m) :
 sortedO ordL m ∧ ∀ z, z ∈ m ↔ Lang l (formOf x) z ∧ askedP l z near same = true := by
 unfold runP at h
 cases hr : runFrom (autoP x) l l.length 0 [] with
 | none => rw [hr] at h; cases h
 | some own =>
  rw [hr] at h
  injection h with h
  subst h
  refine ⟨setO_sorted ordL_laws _, fun z => ?_⟩
  rw [mem_setO ordL_laws]
  have hm := run_mem l.length own (Nat.le_refl _) hr
  have hla := makeP_lang (l := l) (τ := tau (autoP x)) (formOf x) 0 (fun i hi => by
   show (((makeP (formOf x) 0).tests[(0 + (i : Int)).toNat]?).getD zeroT) = _
   rw [show (0 + (i : Int)).toNat = i by omega])
  have hrun : ∀ z q, Run l (tau (autoP x)) (makeP (formOf x) 0).first (makeP (formOf x) 0).follow z q ↔ Run l (tau (autoP x)) (autoP x).first (autoP x).follow z q := fun z q =>
   ⟨run_mono (fun _ h => h) (fun e he => (mem_setO edgeOrd_laws _ _).2 he), run_mono (fun _ h => h) (fun e he => (mem_setO edgeOrd_laws _ _).1 he)⟩
  simp only [List.mem_map, List.mem_filter, Bool.and_eq_true, List.contains_iff_mem]
  constructor
  ·rintro ⟨⟨y, q⟩, ⟨h1, h2, h3⟩, rfl⟩
   have hr1 := ((hm y q).1 h1).1
   have hL := (hla y).2 ⟨q, h2, (hrun y q).2 hr1⟩
   exact ⟨hL, by rw [← nearP_asked he (lang_inc hL)]; exact h3⟩
  ·rintro ⟨hL, ha⟩
   obtain ⟨q, h2, hr1⟩ := (hla z).1 hL
   have hr2 := (hrun z q).1 hr1
   exact ⟨(z, q), ⟨(hm z q).2 ⟨hr2, (run_lt hr2).2⟩, h2, by rw [nearP_asked he (lang_inc hL)]; exact ha⟩, rfl⟩
theorem match_spec {srcs near : Int} {x : Node} {same : Bool} {l : List Ev} (he : eventsP srcs l = true) {m : List (List Int)} (h : matchP l (formOf x) near same = some m) :
 sortedO ordL m ∧ ∀ z, z ∈ m ↔ Lang l (formOf x) z ∧ askedP l z near same = true := by
 unfold matchP at h
 cases ha : allP l (formOf x) with
 | none => rw [ha] at h; cases h
 | some r =>
  rw [ha] at h
  injection h with h
  subst h
  obtain ⟨h1, h2, h3⟩ := all_lang (by have := (events_small he).1; omega) (formOf x) r ha
  exact ⟨List.Pairwise.filter _ h1, fun z => by rw [List.mem_filter, h3]⟩
theorem is_spec {srcs near : Int} {x : Node} {same : Bool} {l : List Ev} (hq : queryP srcs x near = true) (he : eventsP srcs l = true) (z : List Int) :
 (isRes srcs l x near same z).2 = 0 ∧ ((isRes srcs l x near same z).1 = true ↔ Lang l (formOf x) z ∧ askedP l z near same = true) := by
 unfold isRes
 rw [hq, he]
 refine ⟨rfl, ?_⟩
 show (incB l z && askedP l z near same && isP l z (formOf x) 0 z.length) = true ↔ _
 simp only [Bool.and_eq_true, incB_iff]
 have hseg : seg z 0 z.length = z := by simp [seg]
 constructor
 ·rintro ⟨⟨h1, h2⟩, h3⟩
  have := (isP_lang (fun i hi => h1.2.2 i hi) (formOf x) 0 z.length (Nat.le_refl _)).1 h3
  rw [hseg] at this
  exact ⟨this, h2⟩
 ·rintro ⟨h1, h2⟩
  have hi := lang_inc h1
  refine ⟨⟨hi, h2⟩, (isP_lang (fun i h => hi.2.2 i h) (formOf x) 0 z.length (Nat.le_refl _)).2 (by rw [hseg]; exact h1)⟩
end
section
open Go.RowKit Go.Shelf
structure Two (w0 : World) (m cs : Nat) (B5 : Nat) (pc : Array Value) (v1 v2 v3 v4 : Value) (x : Auto) (W : World) : Prop where
 p : W.heap[w0.heap.size]? = some (.cells pc 27 (0, 0))
 r : W.heap[w0.heap.size + 1]? = some (.cells #[.slice none 0 0, .slice none 0 0, .slice none 0 0, .slice none 0 0] 34 (0, 0))
 b5 : W.heap[B5]? = some (.cells #[v1, v2, v3, v4] 34 (0, 0))
 first : Win intC 1 3 W v2 (fun i => w0.heap.size ≤ i ∧ i < m) x.first
 last : Win intC 1 3 W v3 (fun i => w0.heap.size ≤ i ∧ i < m) x.last
 follow : Win edgeC 7 123 W v4 (fun i => w0.heap.size ≤ i) x.follow
 apart : ∀ i, some i = v2.ownBlock → some i ≠ v3.ownBlock
 below : Below w0.heap.size w0 W
 size : cs ≤ W.heap.size
theorem Two.fr {w0 : World} {m cs B5 : Nat} {pc : Array Value} {v1 v2 v3 v4 : Value} {x : Auto} {W W' : World} {S : Nat → Prop} (h : Two w0 m cs B5 pc v1 v2 v3 v4 x W) (hf : Fr S W W')
 (hS : ∀ i, S i → w0.heap.size ≤ i ∧ i ≠ w0.heap.size ∧ i ≠ w0.heap.size + 1 ∧ i ≠ B5 ∧ ∀ cur T q, W.heap[i]? = some (.cells cur T q) → T ≠ 3 ∧ T ≠ 123) : Two w0 m cs B5 pc v1 v2 v3 v4 x W' := by
 have hl : ∀ {i o}, W.heap[i]? = some o → i < W.heap.size := fun h => (Array.getElem?_eq_some_iff.1 h).1
 refine ⟨(hf.block _ (hl h.p) fun hs => (hS _ hs).2.1 rfl).trans h.p, (hf.block _ (hl h.r) fun hs => (hS _ hs).2.2.1 rfl).trans h.r, (hf.block _ (hl h.b5) fun hs => (hS _ hs).2.2.2.1 rfl).trans h.b5, winC_away h.first hf fun i hi hs => ?_, winC_away h.last hf fun i hi hs => ?_, winC_away h.follow hf fun i hi hs => ?_, h.apart, h.below.trans (zO hf h.below.size fun i hi => (hS i hi).1), Nat.le_trans h.size hf.size⟩
 ·obtain ⟨_, cur, hg⟩ := win_own_type h.first i hi
  exact ((hS i hs).2.2.2.2 _ _ _ hg).1 rfl
 ·obtain ⟨_, cur, hg⟩ := win_own_type h.last i hi
  exact ((hS i hs).2.2.2.2 _ _ _ hg).1 rfl
 ·obtain ⟨_, cur, hg⟩ := win_own_type h.follow i hi
  exact ((hS i hs).2.2.2.2 _ _ _ hg).2 rfl
theorem Two.keep {w0 : World} {m cs B5 : Nat} {pc : Array Value} {v1 v2 v3 v4 : Value} {x : Auto} {W W' : World} (h : Two w0 m cs B5 pc v1 v2 v3 v4 x W) (hb : Below W.heap.size W W') : Two w0 m cs B5 pc v1 v2 v3 v4 x W' :=
 h.fr (S := fun _ => False) (zF hb) fun _ h => h.elim
structure Dua (w0 : World) (m : Nat) (B5 B6 : Nat) (pc : Array Value) (v1 v2 v3 v4 y1 y2 y3 y4 : Value) (x y : Auto) (W : World) : Prop where
 two : Two w0 m m B5 pc v1 v2 v3 v4 x W
 b6 : W.heap[B6]? = some (.cells #[y1, y2, y3, y4] 34 (0, 0))
 yf : Win intC 1 3 W y2 (fun i => m ≤ i) y.first
 yl : Win intC 1 3 W y3 (fun i => m ≤ i) y.last
 ye : Win edgeC 7 123 W y4 (fun i => m ≤ i) y.follow
 yap : ∀ i, some i = y2.ownBlock → some i ≠ y3.ownBlock
theorem Dua.fr {w0 : World} {m B5 B6 : Nat} {pc : Array Value} {v1 v2 v3 v4 y1 y2 y3 y4 : Value} {x y : Auto} {W W' : World} {S : Nat → Prop} (h : Dua w0 m B5 B6 pc v1 v2 v3 v4 y1 y2 y3 y4 x y W) (hf : Fr S W W')
 (hS : ∀ i, S i → w0.heap.size ≤ i ∧ i ≠ w0.heap.size ∧ i ≠ w0.heap.size + 1 ∧ i ≠ B5 ∧ i ≠ B6 ∧ ∀ cur T q, W.heap[i]? = some (.cells cur T q) → T ≠ 3 ∧ T ≠ 123) : Dua w0 m B5 B6 pc v1 v2 v3 v4 y1 y2 y3 y4 x y W' := by
 have hl : ∀ {i o}, W.heap[i]? = some o → i < W.heap.size := fun h => (Array.getElem?_eq_some_iff.1 h).1
 refine ⟨h.two.fr hf fun i hi => ⟨(hS i hi).1, (hS i hi).2.1, (hS i hi).2.2.1, (hS i hi).2.2.2.1, (hS i hi).2.2.2.2.2⟩, (hf.block _ (hl h.b6) fun hs => (hS _ hs).2.2.2.2.1 rfl).trans h.b6, winC_away h.yf hf fun i hi hs => ?_, winC_away h.yl hf fun i hi hs => ?_, winC_away h.ye hf fun i hi hs => ?_, h.yap⟩
 ·obtain ⟨_, cur, hg⟩ := win_own_type h.yf i hi
  exact ((hS i hs).2.2.2.2.2 _ _ _ hg).1 rfl
 ·obtain ⟨_, cur, hg⟩ := win_own_type h.yl i hi
  exact ((hS i hs).2.2.2.2.2 _ _ _ hg).1 rfl
 ·obtain ⟨_, cur, hg⟩ := win_own_type h.ye i hi
  exact ((hS i hs).2.2.2.2.2 _ _ _ hg).2 rfl
theorem Dua.keep {w0 : World} {m B5 B6 : Nat} {pc : Array Value} {v1 v2 v3 v4 y1 y2 y3 y4 : Value} {x y : Auto} {W W' : World} (h : Dua w0 m B5 B6 pc v1 v2 v3 v4 y1 y2 y3 y4 x y W) (hb : Below W.heap.size W W') : Dua w0 m B5 B6 pc v1 v2 v3 v4 y1 y2 y3 y4 x y W' :=
 h.fr (S := fun _ => False) (zF hb) fun _ h => h.elim
theorem Dua.tests {w0 : World} {m B5 B6 : Nat} {pc : Array Value} {v1 v2 v3 v4 y1 y2 y3 y4 u : Value} {x y : Auto} {W W' : World} {ts : List Test} (h : Dua w0 m B5 B6 pc v1 v2 v3 v4 y1 y2 y3 y4 x y W) (hx : Win Test.cells 3 24 W u (fun i => w0.heap.size ≤ i ∧ i < m) ts)
 (hf : Fr (fun i => some i = u.ownBlock) W W') : Dua w0 m B5 B6 pc v1 v2 v3 v4 y1 y2 y3 y4 x y W' :=
 h.fr hf fun i hi => by
  obtain ⟨hl, cur, hg⟩ := win_own_type hx i hi
  refine ⟨hl.1, win_not_at hx h.two.p (by decide) i hi, win_not_at hx h.two.r (by decide) i hi, win_not_at hx h.two.b5 (by decide) i hi, win_not_at hx h.b6 (by decide) i hi, fun cur' T q h' => ?_⟩
  rw [hg] at h'
  injection h' with h'
  injection h' with _ h'
  subst h'
  exact ⟨by decide, by decide⟩
theorem Dua.store {w0 : World} {m B5 B6 B : Nat} {pc cs : Array Value} {v1 v2 v3 v4 y1 y2 y3 y4 : Value} {x y : Auto} {W W' : World} (h : Dua w0 m B5 B6 pc v1 v2 v3 v4 y1 y2 y3 y4 x y W) (hB : W.heap[B]? = some (.cells cs 34 (0, 0)))
 (hf : Fr (fun i => i = B) W W') (h5 : B5 < B) (h6 : B6 < B) (h0 : w0.heap.size + 1 < B) : Dua w0 m B5 B6 pc v1 v2 v3 v4 y1 y2 y3 y4 x y W' :=
 h.fr hf fun i hi => by
  have e : i = B := hi
  subst e
  refine ⟨by omega, by omega, by omega, by omega, by omega, fun cur' T q h' => ?_⟩
  rw [hB] at h'
  injection h' with h'
  injection h' with _ h'
  subst h'
  exact ⟨by decide, by decide⟩
end
section
open Go.RowKit Go.Shelf
theorem AutoW.at_ {w : World} {lo : Nat} {v1 v2 v3 v4 : Value} {au : Auto} (h : AutoW w lo v1 v2 v3 v4 au) : AutoAt w v1 v2 v3 v4 au := ⟨win_rd test_len h.tests, win_rd intC_len h.first, win_rd intC_len h.last, win_rd edge_len h.follow⟩
theorem AutoAt.res {w1 w2 : World} {v1 v2 v3 v4 : Value} {au : Auto} {R : Nat} {ds : Array Value} {lo : Nat} (h : AutoW w1 lo v1 v2 v3 v4 au) (hr : w1.heap[R]? = some (.cells ds 34 (0, 0))) (hg : Fr (fun i => i = R) w1 w2) : AutoW w2 lo v1 v2 v3 v4 au :=
 h.store hr hg
end
end Go.Proofs.YtgiploddoffmjaaGreat
