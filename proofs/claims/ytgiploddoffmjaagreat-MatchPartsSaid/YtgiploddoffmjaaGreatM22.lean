/- My texts, joined: W67, N18, W51, W58, W59. -/
import Derived.Below
import Derived.BigQuiet
import Derived.Deep.AppendLies
import Derived.Deep.DeepCutAuto
import Derived.Deep.LoopGhost
import Derived.Deep.QuietTactic
import Derived.Deep.RegionHeld
import Derived.Deep.RegionHeld3
import Derived.Deep.RegionLaw
import Derived.Defers
import Derived.Ground.Names2Prog
import Derived.Ground.Names8Prog
import Derived.Ground.SlsfProg
import Derived.Handy
import Derived.KernelRfl
import Derived.Laws.AppendOwn
import Derived.Laws.AppendOwnNone
import Derived.Laws.CopyRow
import Derived.Laws.Pointers
import Derived.Laws.StructEq
import Derived.Lib.Hide
import Derived.Lib.Overlaps
import Derived.LoopIn
import Derived.LoopN
import Derived.LoopNIn
import Derived.LoopTactic
import Derived.MapKept
import Derived.Maps.AppendAt
import Derived.Maps.OwnOps
import Derived.Maps.RangeRun
import Derived.Maps.RangeWalk
import Derived.Outline
import Derived.OwnWalk
import Derived.OwnWalkIn
import Derived.RangeFuncBound
import Derived.RangeFuncCalls
import Derived.RangeFuncLeaves
import Derived.RangeFuncNested
import Derived.Recover
import Derived.Shelf.Abstract
import Derived.Shelf.RegionOpen
import Derived.Shelf.SlGeneric
import Derived.Shelf.SlLaysF0
import Derived.Shelf.SlSortCmp.HeapSort1
import Derived.Shelf.SlSortCmp.Insertion
import Derived.Shelf.SlSortCmp.Insertion1
import Derived.Shelf.SlSortCmp.Median1
import Derived.Shelf.SlSortCmp.NoneTotal
import Derived.Shelf.SlSortCmp.PartialInsertion1
import Derived.Shelf.SlSortCmp.Partition1
import Derived.Shelf.SlSortCmp.PartitionEqual1
import Derived.Shelf.SlSortCmp.Pdq1
import Derived.Shelf.SlSortCmp.Pivot1
import Derived.Shelf.SlSortCmp.ReverseRange1
import Derived.Shelf.SlSortCmp.SiftDown1
import Derived.Shelf.SlSortCmp.Whole1
import Derived.Shelf.SlSortCmp.WholeK
import Derived.Shelf.Slices.In.SortNone
import Derived.Shelf.Small.Bits
import Derived.Shelf.Sort.Plain
import Derived.Shelf.Spec.SlicesGrow
import Derived.TacticsInMore
import Derived.Test.YtgiploddoffmjaaGreatProg
import Derived.WalkKit
import Derived.WalkLawsBesides
import Derived.WalkSpells
import Derived.Test.YtgiploddoffmjaaGreatM0
import Derived.Test.YtgiploddoffmjaaGreatM1
import Derived.Test.YtgiploddoffmjaaGreatM2
import Derived.Test.YtgiploddoffmjaaGreatM3
import Derived.Test.YtgiploddoffmjaaGreatM4
import Derived.Test.YtgiploddoffmjaaGreatM5
import Derived.Test.YtgiploddoffmjaaGreatM6
import Derived.Test.YtgiploddoffmjaaGreatM8
import Derived.Test.YtgiploddoffmjaaGreatM9
import Derived.Test.YtgiploddoffmjaaGreatM10
import Derived.Test.YtgiploddoffmjaaGreatM11
import Derived.Test.YtgiploddoffmjaaGreatM12
import Derived.Test.YtgiploddoffmjaaGreatM13
import Derived.Test.YtgiploddoffmjaaGreatM18
import Derived.Test.YtgiploddoffmjaaGreatM19
import Derived.Test.YtgiploddoffmjaaGreatM20
import Derived.Test.YtgiploddoffmjaaGreatM21
set_option linter.unusedVariables false
set_option linter.unusedSimpArgs false
set_option linter.unusedSectionVars false
set_option maxRecDepth 10000
namespace Go.Proofs.YtgiploddoffmjaaGreat
section
open Go.RowKit Go.Shelf
structure NextAt (w : World) (X lo : Nat) (vs : Nat → Value) (A : Nat → List Row) : Prop where
 blk : ∃ cur : Array Value, w.heap[X]? = some (.cells cur 137 (0, 0)) ∧ cur.size = 12 ∧ ∀ p, p < 12 → cur[p]? = some (vs p)
 at_ : ∀ p, p < 12 → LL w lo (vs p) (A p)
 apart : ∀ p q, p < 12 → q < 12 → p ≠ q → ∀ i, some i = (vs p).ownBlock → some i ≠ (vs q).ownBlock
theorem NextAt.type {w : World} {X lo : Nat} {vs : Nat → Value} {A : Nat → List Row} (h : NextAt w X lo vs A) : ∀ cur q, w.heap[X]? ≠ some (.cells cur 3 q) := fun cur q hg => by
 obtain ⟨_, hb, _⟩ := h.blk
 rw [hb] at hg
 injection hg with hg
 injection hg with _ hg
 exact absurd hg (by decide)
theorem NextAt.other {w : World} {X lo lo' : Nat} {v : Value} {vs : Nat → Value} {A : Nat → List Row} {gs : List Row} (h : NextAt w X lo vs A) (g : LL w lo' v gs) : ∀ i, some i = v.ownBlock → i ≠ X := fun i hi he => by
 obtain ⟨_, hb, _⟩ := h.blk
 obtain ⟨_, cur', hg'⟩ := win_own_type g.1 i hi
 rw [he, hb] at hg'
 injection hg' with hg
 injection hg with _ hg
 exact absurd hg (by decide)
theorem NextAt.fr {w W : World} {X lo : Nat} {vs : Nat → Value} {A : Nat → List Row} {S : Nat → Prop} (h : NextAt w X lo vs A) (hf : Fr S w W) (hR : ¬ S X) (hv : ∀ p, p < 12 → ∀ i, some i = (vs p).ownBlock → ¬ S i) (hS : ∀ i, S i → ∀ cur q, w.heap[i]? ≠ some (.cells cur 3 q)) : NextAt W X lo vs A := by
 obtain ⟨cur, hb, h1, h2⟩ := h.blk
 exact ⟨⟨cur, (hf.block X (Array.getElem?_eq_some_iff.1 hb).1 hR).trans hb, h1, h2⟩, fun p hp => (h.at_ p hp).fr hf (hv p hp) hS, h.apart⟩
theorem NextAt.below {w W : World} {X lo : Nat} {vs : Nat → Value} {A : Nat → List Row} (h : NextAt w X lo vs A) (hb : Below w.heap.size w W) : NextAt W X lo vs A :=
 h.fr (S := fun _ => False) (zF hb) (fun h => h) (fun _ _ _ _ h => h) fun _ h => h.elim
theorem NextAt.lt {w : World} {X lo : Nat} {vs : Nat → Value} {A : Nat → List Row} (h : NextAt w X lo vs A) : X < w.heap.size := by
 obtain ⟨cur, hb, _⟩ := h.blk
 exact (Array.getElem?_eq_some_iff.1 hb).1
theorem NextAt.cells {w : World} {X lo : Nat} {vs : Nat → Value} {A : Nat → List Row} (h : NextAt w X lo vs A) : (∀ p, p < 12 → w.cell? ⟨X, p, none⟩ = some (vs p)) ∧ ∀ j, w.frozen? ⟨X, j, none⟩ = false := by
 obtain ⟨cur, hb, h1, h2⟩ := h.blk
 exact ⟨fun p hp => (zC hb p).trans (h2 p hp), fun j => zK hb j⟩
theorem NextAt.put {w w1 : World} {X lo p : Nat} {v : Value} {vs : Nat → Value} {A : Nat → List Row} {gs : List Row} (h : NextAt w X lo vs A) (hp : p < 12) (hf : Fr (fun i => some i = (vs p).ownBlock) w w1)
 (hl : LL w1 lo v (A p ++ gs)) (hv : ∀ i, some i = v.ownBlock → some i = (vs p).ownBlock ∨ w.heap.size ≤ i) : NextAt (w1.setCell ⟨X, p, none⟩ v) X lo (upV vs p v) (upA A p gs) := by
 obtain ⟨cur, hb, h1, h2⟩ := h.blk
 have hR : ∀ i, some i = (vs p).ownBlock → i ≠ X := h.other (h.at_ p hp)
 have hb1 := (hf.block X h.lt fun hi => hR X hi rfl).trans hb
 have hfs := fr_setCell w1 ⟨X, p, none⟩ v
 have hsz : p < cur.size := (Array.getElem?_eq_some_iff.1 (h2 p hp)).1
 have ht : ∀ i, some i = (vs p).ownBlock → ∀ cur q, w.heap[i]? ≠ some (.cells cur 3 q) := (h.at_ p hp).type
 have htR : ∀ i, i = X → ∀ cur q, w1.heap[i]? ≠ some (.cells cur 3 q) := fun i hi cur' q hg => by
  rw [hi, hb1] at hg
  injection hg with hg
  injection hg with _ hg
  exact absurd hg (by decide)
 have hoR : ∀ {lo' : Nat} {u : Value} {ps : List Row}, LL w1 lo' u ps → ∀ i, some i = u.ownBlock → ¬ i = X := fun g i hi he => by
  obtain ⟨_, cur', hg'⟩ := win_own_type g.1 i hi
  rw [he, hb1] at hg'
  injection hg' with hg
  injection hg with _ hg
  exact absurd hg (by decide)
 refine ⟨⟨cur.setIfInBounds p v, setCell_blk hb1 v, by simp [h1], fun q hq => ?_⟩, fun q hq => ?_, fun q r hq hr hne i hi hj => ?_⟩
 ·unfold upV
  by_cases he : q = p
  ·rw [if_pos he, he, Array.getElem?_setIfInBounds_self_of_lt hsz]
  ·rw [if_neg he, Array.getElem?_setIfInBounds_ne (by omega)]; exact h2 q hq
 ·unfold upV upA
  by_cases he : q = p
  ·rw [if_pos he, if_pos he, he]
   exact hl.fr hfs (hoR hl) htR
  ·rw [if_neg he, if_neg he]
   have h1 := (h.at_ q hq).fr hf (fun i hi hj => h.apart p q hp hq (fun e => he e.symm) i hj hi) ht
   exact h1.fr hfs (hoR h1) htR
 ·unfold upV at hi hj
  by_cases hep : q = p
  ·rw [if_pos hep] at hi
   rw [if_neg (by omega)] at hj
   rcases hv i hi with h4 | h4
   ·exact h.apart p r hp hr (by omega) i h4 hj
   ·have := ((h.at_ r hr).ob i hj).2; omega
  ·rw [if_neg hep] at hi
   by_cases her : r = p
   ·rw [if_pos her] at hj
    rcases hv i hj with h4 | h4
    ·exact h.apart q p hq hp hep i hi h4
    ·have := ((h.at_ q hq).ob i hi).2; omega
   ·rw [if_neg her] at hj
    exact h.apart q r hq hr hne i hi hj
theorem NextAt.zero {w : World} {X lo : Nat} (h : w.heap[X]? = some (.cells #[.slice none 0 0, .slice none 0 0, .slice none 0 0, .slice none 0 0, .slice none 0 0, .slice none 0 0, .slice none 0 0, .slice none 0 0, .slice none 0 0, .slice none 0 0, .slice none 0 0, .slice none 0 0] 137 (0, 0))) : NextAt w X lo (fun _ => .slice none 0 0) (fun _ => []) :=
 ⟨⟨_, h, rfl, fun p hp => by
  match p, hp with
  | 0, _ | 1, _ | 2, _ | 3, _ | 4, _ | 5, _ | 6, _ | 7, _ | 8, _ | 9, _ | 10, _ | 11, _ => rfl⟩, fun p _ => LL.nil _ _, fun p q _ _ _ i hi => by simp [Value.ownBlock] at hi⟩
end
section
def placesFrom (n : Int) : Option Int → List Int → Bool
 | _, [] => true
 | p, v :: l => inP v 0 (n - 1) && (match p with | none => true | some u => decide (u < v)) && placesFrom n (some v) l
def prevAt {α : Type} (l : List α) (k : Nat) : Option α := if k = 0 then none else l[k - 1]?
theorem places_drop {n : Int} {l : List Int} {k : Nat} {v : Int} (hx : l[k]? = some v) :
 placesFrom n (prevAt l k) (l.drop k) = (inP v 0 (n - 1) && (match prevAt l k with | none => true | some u => decide (u < v)) && placesFrom n (prevAt l (k + 1)) (l.drop (k + 1))) := by
 obtain ⟨h, rfl⟩ := List.getElem?_eq_some_iff.1 hx
 rw [List.drop_eq_getElem_cons h, show prevAt l (k + 1) = some l[k] by simp [prevAt, h]]
 rfl
def edgeGood (srcs n : Int) (e : Edge) : Bool := inP e.from_ 0 (n - 1) && inP e.to_ 0 (n - 1) && inP e.n 0 200 && (if e.lack then isTestP e.t srcs else decide (e.t = zeroT))
def edgesFrom (srcs n : Int) : Option Edge → List Edge → Bool
 | _, [] => true
 | p, e :: l => edgeGood srcs n e && (match p with | none => true | some u => decide (edgeOrd u e < 0)) && edgesFrom srcs n (some e) l
theorem edges_drop {srcs n : Int} {l : List Edge} {k : Nat} {v : Edge} (hx : l[k]? = some v) :
 edgesFrom srcs n (prevAt l k) (l.drop k) = (edgeGood srcs n v && (match prevAt l k with | none => true | some u => decide (edgeOrd u v < 0)) && edgesFrom srcs n (prevAt l (k + 1)) (l.drop (k + 1))) := by
 obtain ⟨h, rfl⟩ := List.getElem?_eq_some_iff.1 hx
 rw [List.drop_eq_getElem_cons h, show prevAt l (k + 1) = some l[k] by simp [prevAt, h]]
 rfl
theorem prevAt_succ {α : Type} {l : List α} {k : Nat} {v : α} (hx : l[k]? = some v) : prevAt l (k + 1) = some v := by simp [prevAt, hx]
def isAutoP (srcs : Int) (au : Auto) : Bool := decide (au.tests.length ≤ 12) && !(au.tests.any fun t => !isTestP t srcs) && placesFrom au.tests.length none au.first && placesFrom au.tests.length none au.last && edgesFrom srcs au.tests.length none au.follow
theorem edgeGood_small {srcs n : Int} {e : Edge} (h : edgeGood srcs n e = true) (hs : srcs ≤ 4) (hn : n ≤ 12) : (0 ≤ e.from_ ∧ e.from_ ≤ 12) ∧ (0 ≤ e.to_ ∧ e.to_ ≤ 12) ∧ (0 ≤ e.n ∧ e.n ≤ 200) ∧ smallT e.t := by
 unfold edgeGood inP at h
 simp only [Bool.and_eq_true, decide_eq_true_eq] at h
 refine ⟨by omega, by omega, by omega, ?_⟩
 have h4 := h.2
 cases hl : e.lack with
 | true => rw [hl, if_pos rfl] at h4; exact isTest_small h4 hs
 | false => rw [hl, if_neg (by decide)] at h4; rw [of_decide_eq_true h4]; exact zeroT_small
end
section
open Go.RowKit Go.Shelf
set_option maxHeartbeats 2000000 in
theorem places_any (v : Value) (l : List Int) (n : Int) (hn : -9223372036854775808 < n ∧ n ≤ 9223372036854775807) (w : World) (hr : Rd intC 1 w v l) :
 Calls Tryz.prog 152 #[v, .int .i64 n] w fun e w' => e = .returned (.bool (placesFrom n none l)) ∧ Below w.heap.size w w' := by
 obtain ⟨a, c, rfl⟩ : ∃ a c, v = .slice a l.length c := by obtain ⟨_, a, c, rfl, _⟩ := hr; exact ⟨a, c, rfl⟩
 have hl63 := hr.1
 have HR := zH hr
 have HB := zH (Below.refl w.heap.size w)
 have hw1 : IntKind.i64.wrap (n - 1) = n - 1 := Go.IntWalk.i64_in _ (by omega)
 clear hr
 go_enter Tryz.func152, Tryz.ntmps152
 go_wp2
 go_loopw [9] (fun i W => ∃ (k : Nat), i = .int .i64 k ∧ k ≤ l.length ∧ placesFrom n (prevAt l k) (l.drop k) = placesFrom n none l ∧ Below w.heap.size w W) (fun i _ => l.length - (intOf i).toNat)
 case atStart => exact ⟨0, rfl, by omega, rfl, HB.out⟩
 case round =>
  obtain ⟨k, rfl, hnl, hi, hB⟩ := hrel
  by_cases hlt : k < l.length
  ·have hx := List.getElem?_eq_getElem hlt
   generalize l[k] = x at hx
   obtain ⟨b, off, rfl, hbl, hc⟩ := rd_at (HR.out.below hB) hx
   have q0 : wr.cell? ⟨b, off + k, none⟩ = some (.int .i64 x) := by have := hc 0 _ rfl; simpa using this
   have hd := places_drop (n := n) hx
   rw [hi] at hd
   cases hin : inP x 0 (n - 1) with
   | false =>
    have HX := zH (zA hd (zA hB hin))
    clear hd hB hi hc hx hin
    go_wp2_with (go_at_call 88; refine (within_any _ _ _ _).mono ?_; rintro e w9 ⟨rfl, rfl⟩; rw [HX.out.2.2])
    go_ret
    exact ⟨ret_bool (by rw [HX.out.1, HX.out.2.2]; rfl), HX.out.2.1⟩
   | true =>
    rw [hin] at hd
    by_cases hk : k = 0
    ·subst hk
     have q1 : wr.cell? ⟨b, off, none⟩ = some (.int .i64 x) := q0
     have hd : placesFrom n none l = placesFrom n (prevAt l 1) (l.drop 1) := by rw [hd]; simp [prevAt]
     have HX := zH (zA hd (zA hB hin))
     clear hd hB hi hc hx hin
     go_wp2_with (go_at_call 88; refine (within_any _ _ _ _).mono ?_; rintro e w9 ⟨rfl, rfl⟩; rw [HX.out.2.2])
     go_roundw
     case rel => exact ⟨1, by go_num, by omega, HX.out.1.symm, HX.out.2.1⟩
     case measure => simp [intOf]; omega
    ·obtain ⟨j, rfl⟩ : ∃ j, k = j + 1 := ⟨k - 1, by omega⟩
     have hxj := List.getElem?_eq_getElem (show j < l.length by omega)
     generalize l[j] = u at hxj
     obtain ⟨b', off', e2, _, hc'⟩ := rd_at (HR.out.below hB) hxj
     obtain ⟨rfl, rfl⟩ : b = b' ∧ off = off' := by simpa using e2
     have q1 : wr.cell? ⟨b, off + j, none⟩ = some (.int .i64 u) := by have := hc' 0 _ rfl; simpa using this
     have hd : placesFrom n none l = (decide (u < x) && placesFrom n (prevAt l (j + 1 + 1)) (l.drop (j + 1 + 1))) := by rw [hd]; simp [prevAt, hxj]
     have hpos : (0 : Int) < (j + 1 : Nat) := by omega
     have hjj : IntKind.i64.wrap (((j + 1 : Nat) : Int) - 1) = (j : Int) := (Go.IntWalk.i64_in _ (by omega)).trans (by omega)
     have HX := zH (zA hd (zA hB hin))
     clear hd hB hi hc hx hin hc' hxj
     by_cases hux : u < x
     ·have hux' : ¬ u ≥ x := by omega
      have HU := zH hux
      go_wp2_with (go_at_call 88; refine (within_any _ _ _ _).mono ?_; rintro e w9 ⟨rfl, rfl⟩; rw [HX.out.2.2])
      go_roundw
      case rel => exact ⟨j + 1 + 1, by go_num, by omega, by rw [HX.out.1, decide_eq_true HU.out]; rfl, HX.out.2.1⟩
      case measure => simp [intOf]; omega
     ·have hux' : u ≥ x := by omega
      have HU := zH hux
      go_wp2_with (go_at_call 88; refine (within_any _ _ _ _).mono ?_; rintro e w9 ⟨rfl, rfl⟩; rw [HX.out.2.2])
      go_ret
      exact ⟨ret_bool (by have h := HU.out; rw [HX.out.1, decide_eq_false (by omega)]; rfl), HX.out.2.1⟩
  ·obtain rfl : k = l.length := by omega
   have HX := zH (zA hi hB)
   clear hi hB
   go_wp2
   go_ret
   exact ⟨ret_bool (by rw [← HX.out.1, List.drop_length]; cases prevAt l l.length <;> rfl), HX.out.2⟩
end
section
open Go.RowKit Go.Shelf
def LackR (w : World) (op : Int) (u : Value) (lk : Option Test) : Prop :=
 ((op == 5) = false ∧ lk = none) ∨ ((op == 5) = true ∧ ∃ tc b o n c, lk = some tc ∧ u = .slice (some ⟨b, o, none⟩) n c ∧ (1 : Int) < (n : Int) ∧ w.cell? ⟨b, o + 6 + 1, none⟩ = some (.int .i64 tc.src) ∧ w.cell? ⟨b, o + 6 + 2, none⟩ = some (.int .i64 tc.low) ∧ w.cell? ⟨b, o + 6 + 3, none⟩ = some (.int .i64 tc.high))
theorem LackR.below {w W : World} {op : Int} {u : Value} {lk : Option Test} (h : LackR w op u lk) (hb : Below w.heap.size w W) : LackR W op u lk := by
 rcases h with h | ⟨h0, tc, b, o, n, c, h1, h2, h3, h4, h5, h6⟩
 ·exact .inl h
 ·exact .inr ⟨h0, tc, b, o, n, c, h1, h2, h3, zB hb h4, zB hb h5, zB hb h6⟩
end
section
open Go.RowKit Go.Shelf
structure AutoW (w : World) (lo : Nat) (v1 v2 v3 v4 : Value) (au : Auto) : Prop where
 tests : Win Test.cells 3 24 w v1 (fun i => lo ≤ i) au.tests
 first : Win intC 1 3 w v2 (fun i => lo ≤ i) au.first
 last : Win intC 1 3 w v3 (fun i => lo ≤ i) au.last
 follow : Win edgeC 7 123 w v4 (fun i => lo ≤ i) au.follow
 apart : ∀ i, some i = v2.ownBlock → some i ≠ v3.ownBlock
theorem AutoW.below {w W : World} {lo : Nat} {v1 v2 v3 v4 : Value} {au : Auto} (h : AutoW w lo v1 v2 v3 v4 au) (hb : Below w.heap.size w W) : AutoW W lo v1 v2 v3 v4 au :=
 ⟨zM h.tests (zF (S := fun _ => False) hb) (fun _ _ h => h), zM h.first (zF (S := fun _ => False) hb) (fun _ _ h => h), zM h.last (zF (S := fun _ => False) hb) (fun _ _ h => h), zM h.follow (zF (S := fun _ => False) hb) (fun _ _ h => h), h.apart⟩
theorem AutoW.mono {w : World} {lo lo' : Nat} {v1 v2 v3 v4 : Value} {au : Auto} (h : AutoW w lo v1 v2 v3 v4 au) (hl : lo' ≤ lo) : AutoW w lo' v1 v2 v3 v4 au :=
 ⟨zN h.tests fun i hi => Nat.le_trans hl hi, zN h.first fun i hi => Nat.le_trans hl hi, zN h.last fun i hi => Nat.le_trans hl hi, zN h.follow fun i hi => Nat.le_trans hl hi, h.apart⟩
theorem win_not_at {α : Type} {enc : α → List Value} {k e T : Nat} {w : World} {v : Value} {S : Nat → Prop} {xs : List α} {B : Nat} {cs : Array Value} (h : Win enc k e w v S xs) (hB : w.heap[B]? = some (.cells cs T (0, 0))) (hT : e ≠ T) : ∀ i, some i = v.ownBlock → i ≠ B := by
 intro i hi he
 obtain ⟨_, cur, hg⟩ := win_own_type h i hi
 rw [he, hB] at hg
 injection hg with hg
 injection hg with _ hg
 exact hT hg.symm
theorem AutoW.away {w W : World} {lo : Nat} {v1 v2 v3 v4 : Value} {au : Auto} {S : Nat → Prop} (h : AutoW w lo v1 v2 v3 v4 au) (hf : Fr S w W) (h1 : ∀ i, some i = v1.ownBlock → ¬ S i) (h2 : ∀ i, some i = v2.ownBlock → ¬ S i) (h3 : ∀ i, some i = v3.ownBlock → ¬ S i) (h4 : ∀ i, some i = v4.ownBlock → ¬ S i) : AutoW W lo v1 v2 v3 v4 au :=
 ⟨winC_away h.tests hf h1, winC_away h.first hf h2, winC_away h.last hf h3, winC_away h.follow hf h4, h.apart⟩
theorem AutoW.store {w W : World} {lo B : Nat} {v1 v2 v3 v4 : Value} {au : Auto} {cs : Array Value} (h : AutoW w lo v1 v2 v3 v4 au) (hB : w.heap[B]? = some (.cells cs 34 (0, 0))) (hf : Fr (fun i => i = B) w W) : AutoW W lo v1 v2 v3 v4 au :=
 h.away hf (fun i hi => win_not_at h.tests hB (by decide) i hi) (fun i hi => win_not_at h.first hB (by decide) i hi) (fun i hi => win_not_at h.last hB (by decide) i hi) (fun i hi => win_not_at h.follow hB (by decide) i hi)
theorem win_box {α : Type} {enc : α → List Value} {k e : Nat} (w : World) (x : α) (cs : Array Value) (lo : Nat) (hlo : lo ≤ w.heap.size) (hcs : cs.toList = enc x) (hk : (enc x).length = k) : Win enc k e (w.alloc (.cells cs e)) (.slice (some ⟨w.heap.size, 0, none⟩) 1 1) (fun i => lo ≤ i) [x] := by
 have hsz : cs.size = k := by rw [← hk, ← hcs, Array.length_toList]
 refine (?_ : WinC _ _ _ _ _ _ _)
 refine ⟨by simp [hk], .inr ⟨w.heap.size, 0, 1, cs, rfl, hlo, heap_alloc_new w _, Nat.le_refl _, by unfold maxLen; omega, by simp [hsz], ?_⟩⟩
 simp only [List.flatMap_cons, List.flatMap_nil, List.append_nil, List.drop_zero, List.length_cons, List.length_nil, Nat.zero_add, Nat.one_mul]
 rw [List.take_of_length_le (by simp [hsz]), hcs]
end
end Go.Proofs.YtgiploddoffmjaaGreat
