/- My texts, joined: W70, N8, W74, N26, W85, W86, N23, W71, W72, W54, W87. -/
import Derived.Below
import Derived.BigQuiet
import Derived.ChangeKeysEq
import Derived.Deep.AppendLies
import Derived.Deep.CutBlock
import Derived.Deep.DeepCutAuto
import Derived.Deep.LoopGhost
import Derived.Deep.QuietTactic
import Derived.Deep.RegionHeld
import Derived.Deep.RegionHeld3
import Derived.Deep.RegionLaw
import Derived.Defers
import Derived.Ground.Names2Prog
import Derived.Ground.Names8Prog
import Derived.Ground.SlsfProg
import Derived.Handy
import Derived.KernelRfl
import Derived.Laws.AppendOwn
import Derived.Laws.AppendOwnNone
import Derived.Laws.CopyRow
import Derived.Laws.Pointers
import Derived.Laws.StructEq
import Derived.Lib.Hide
import Derived.Lib.Overlaps
import Derived.LoopIn
import Derived.LoopN
import Derived.LoopNIn
import Derived.LoopTactic
import Derived.MapKept
import Derived.Maps.AppendAt
import Derived.Maps.OwnOps
import Derived.Maps.RangeRun
import Derived.Maps.RangeWalk
import Derived.Outline
import Derived.OwnWalk
import Derived.OwnWalkIn
import Derived.RangeFuncBound
import Derived.RangeFuncCalls
import Derived.RangeFuncLeaves
import Derived.RangeFuncNested
import Derived.Recover
import Derived.Shelf.Abstract
import Derived.Shelf.RegionOpen
import Derived.Shelf.SlGeneric
import Derived.Shelf.SlLaysF0
import Derived.Shelf.SlSortCmp.HeapSort1
import Derived.Shelf.SlSortCmp.Insertion
import Derived.Shelf.SlSortCmp.Insertion1
import Derived.Shelf.SlSortCmp.Median1
import Derived.Shelf.SlSortCmp.NoneTotal
import Derived.Shelf.SlSortCmp.PartialInsertion1
import Derived.Shelf.SlSortCmp.Partition1
import Derived.Shelf.SlSortCmp.PartitionEqual1
import Derived.Shelf.SlSortCmp.Pdq1
import Derived.Shelf.SlSortCmp.Pivot1
import Derived.Shelf.SlSortCmp.ReverseRange1
import Derived.Shelf.SlSortCmp.SiftDown1
import Derived.Shelf.SlSortCmp.Whole1
import Derived.Shelf.SlSortCmp.WholeK
import Derived.Shelf.Slices.In.SortNone
import Derived.Shelf.Small.Bits
import Derived.Shelf.Sort.Plain
import Derived.Shelf.Spec.SlicesGrow
import Derived.TacticsInMore
import Derived.Test.YtgiploddoffmjaaGreatProg
import Derived.WalkKit
import Derived.WalkLawsBesides
import Derived.WalkSpells
import Derived.Test.YtgiploddoffmjaaGreatM0
import Derived.Test.YtgiploddoffmjaaGreatM1
import Derived.Test.YtgiploddoffmjaaGreatM2
import Derived.Test.YtgiploddoffmjaaGreatM3
import Derived.Test.YtgiploddoffmjaaGreatM4
import Derived.Test.YtgiploddoffmjaaGreatM5
import Derived.Test.YtgiploddoffmjaaGreatM6
import Derived.Test.YtgiploddoffmjaaGreatM7
import Derived.Test.YtgiploddoffmjaaGreatM8
import Derived.Test.YtgiploddoffmjaaGreatM9
import Derived.Test.YtgiploddoffmjaaGreatM10
import Derived.Test.YtgiploddoffmjaaGreatM11
import Derived.Test.YtgiploddoffmjaaGreatM12
import Derived.Test.YtgiploddoffmjaaGreatM13
import Derived.Test.YtgiploddoffmjaaGreatM14
import Derived.Test.YtgiploddoffmjaaGreatM15
import Derived.Test.YtgiploddoffmjaaGreatM16
import Derived.Test.YtgiploddoffmjaaGreatM17
import Derived.Test.YtgiploddoffmjaaGreatM18
import Derived.Test.YtgiploddoffmjaaGreatM19
import Derived.Test.YtgiploddoffmjaaGreatM20
import Derived.Test.YtgiploddoffmjaaGreatM21
import Derived.Test.YtgiploddoffmjaaGreatM22
import Derived.Test.YtgiploddoffmjaaGreatM23
import Derived.Test.YtgiploddoffmjaaGreatM24
import Derived.Test.YtgiploddoffmjaaGreatM25
set_option linter.unusedVariables false
set_option linter.unusedSimpArgs false
set_option linter.unusedSectionVars false
set_option maxRecDepth 10000
namespace Go.Proofs.YtgiploddoffmjaaGreat
section
open Go.RowKit Go.Shelf
def runOk (srcs : Int) (au : Auto) (near : Int) (l : List Ev) : Bool := inP srcs 1 4 && isAutoP srcs au && inP near 0 200 && eventsP srcs l
def runRes (srcs : Int) (au : Auto) (near : Int) (same : Bool) (l : List Ev) : List (List Int) × Int :=
 if runOk srcs au near l then (match runP au near same l with | none => ([], 3) | some m => (m, 0)) else ([], 2)
def OwnRowsR (w w' : World) (v : Value) (m : List (List Int)) : Prop := ∃ a gs, v = .slice a gs.length gs.length ∧ nums gs = m ∧ LL w' w.heap.size v gs
theorem OwnRowsR.nil (w w' : World) : OwnRowsR w w' (.slice none 0 0) [] := ⟨none, [], rfl, rfl, LL.nil _ _⟩
theorem RunAt.zero {w : World} {R lo : Nat} {fv : Value} (h : w.heap[R]? = some (.cells #[fv, .slice none 0 0, .slice none 0 0, .slice none 0 0, .slice none 0 0, .slice none 0 0, .slice none 0 0, .slice none 0 0, .slice none 0 0, .slice none 0 0, .slice none 0 0, .slice none 0 0, .slice none 0 0, .int .i64 0] 139 (0, 0))) : RunAt w R lo fv (fun _ => .slice none 0 0) (fun _ => []) 0 :=
 ⟨⟨_, h, rfl, fun p hp => by
  match p, hp with
  | 0, _ | 1, _ | 2, _ | 3, _ | 4, _ | 5, _ | 6, _ | 7, _ | 8, _ | 9, _ | 10, _ | 11, _ => rfl, rfl⟩, fun p _ => LL.nil _ _, fun p q _ _ _ i hi => by simp [Value.ownBlock] at hi⟩
set_option maxHeartbeats 16000000 in
theorem run_bad (v1 v2 v3 v4 : Value) (au : Auto) (near : Int) (same : Bool) (srcs : Int) (l : List Ev) (al : Option Addr) (cl : Nat) (w : World) (ha : AutoAt w v1 v2 v3 v4 au) (hr : Rd Ev.cells 5 w (.slice al l.length cl) l) (hb : runOk srcs au near l = false) :
 Calls Tryz.prog 18 #[.agg #[v1, v2, v3, v4], .int .i64 near, .bool same, .int .i64 srcs, .slice al l.length cl] w fun e w' => e = .returned (.tuple #[.slice none 0 0, .int .i64 2]) ∧ Below w.heap.size w w' := by
 have HH := zH (zA ha hr)
 have HB := zH hb
 clear ha hr hb
 have hc1 := fun W => within_any srcs 1 4 W
 have hc3 := fun W => within_any near 0 200 W
 cases h1 : inP srcs 1 4 with
 | false =>
  rw [h1] at hc1
  have HC1 := zH hc1
  clear hc1 hc3 h1
  go_enter Tryz.func18, Tryz.ntmps18
  go_wp2_with fail
  refine named_box2 (G := fun W => Calls _ _ _ W _) w _ _ _ _ fun W1 hb1 hz1 hx1 hy1 => ?_
  refine (HC1.out W1).mono ?_
  rintro e w2 ⟨rfl, rfl⟩
  have H1 := zH hb1
  clear hb1 hz1 hx1 hy1
  go_wp2
  go_ret2
  exact ⟨rfl, H1.out⟩
 | true =>
  have hs : 1 ≤ srcs ∧ srcs ≤ 4 := by
   simp only [inP, Bool.and_eq_true, decide_eq_true_eq] at h1
   exact h1
  rw [h1] at hc1
  have HC1 := zH hc1
  have H11 := zH h1
  clear hc1 h1
  have hc2 := fun W (hW : Below w.heap.size w W) => isAuto_any v1 v2 v3 v4 au srcs hs W (HH.out.1.below hW)
  have hc4 := fun W (hW : Below w.heap.size w W) => areEvents_any l (.slice al l.length cl) srcs hs W (HH.out.2.below hW)
  cases h2 : isAutoP srcs au with
  | false =>
   rw [h2] at hc2
   have HC2 := zH hc2
   clear hc2 hc3 hc4 h2
   go_enter Tryz.func18, Tryz.ntmps18
   go_wp2_with fail
   refine named_box2 (G := fun W => Calls _ _ _ W _) w _ _ _ _ fun W1 hb1 hz1 hx1 hy1 => ?_
   refine (HC1.out W1).mono ?_
   rintro e w2 ⟨rfl, rfl⟩
   have a0 : W1.cell? ⟨w.heap.size, 0, none⟩ = some v1 := zC hx1 0
   have a1 : W1.cell? ⟨w.heap.size, 1, none⟩ = some v2 := zC hx1 1
   have a2 : W1.cell? ⟨w.heap.size, 2, none⟩ = some v3 := zC hx1 2
   have a3 : W1.cell? ⟨w.heap.size, 3, none⟩ = some v4 := zC hx1 3
   have H1 := zH hb1
   clear hb1 hz1 hx1 hy1
   go_wp2_with (go_at_call 89; refine (HC2.out _ H1.out).mono ?_; rintro e w3 ⟨rfl, hb3⟩; have H3 := zH (H1.out.trans (hb3.mono H1.out.size)); clear hb3 a0 a1 a2 a3)
   go_ret2
   exact ⟨rfl, H3.out⟩
  | true =>
   rw [h2] at hc2
   have HC2 := zH hc2
   have H22 := zH h2
   clear hc2 h2
   cases h3 : inP near 0 200 with
   | false =>
    rw [h3] at hc3
    have HC3 := zH hc3
    clear hc3 hc4 h3
    go_enter Tryz.func18, Tryz.ntmps18
    go_wp2_with fail
    refine named_box2 (G := fun W => Calls _ _ _ W _) w _ _ _ _ fun W1 hb1 hz1 hx1 hy1 => ?_
    refine (HC1.out W1).mono ?_
    rintro e w2 ⟨rfl, rfl⟩
    have a0 : W1.cell? ⟨w.heap.size, 0, none⟩ = some v1 := zC hx1 0
    have a1 : W1.cell? ⟨w.heap.size, 1, none⟩ = some v2 := zC hx1 1
    have a2 : W1.cell? ⟨w.heap.size, 2, none⟩ = some v3 := zC hx1 2
    have a3 : W1.cell? ⟨w.heap.size, 3, none⟩ = some v4 := zC hx1 3
    have H1 := zH hb1
    clear hb1 hz1 hx1 hy1
    go_wp2_with (first | (go_at_call 89; refine (HC2.out _ H1.out).mono ?_; rintro e w3 ⟨rfl, hb3⟩; have H3 := zH (H1.out.trans (hb3.mono H1.out.size)); clear hb3 a0 a1 a2 a3) | (go_at_call 88; refine (HC3.out _).mono ?_; rintro e w4 ⟨rfl, rfl⟩))
    go_ret2
    exact ⟨rfl, H3.out⟩
   | true =>
    rw [h3] at hc3
    have HC3 := zH hc3
    have h4 : eventsP srcs l = false := by
     have := HB.out
     unfold runOk at this
     rw [H11.out, H22.out, h3] at this
     simpa using this
    rw [h4] at hc4
    have HC4 := zH hc4
    clear hc3 hc4 h3 h4
    go_enter Tryz.func18, Tryz.ntmps18
    go_wp2_with fail
    refine named_box2 (G := fun W => Calls _ _ _ W _) w _ _ _ _ fun W1 hb1 hz1 hx1 hy1 => ?_
    refine (HC1.out W1).mono ?_
    rintro e w2 ⟨rfl, rfl⟩
    have a0 : W1.cell? ⟨w.heap.size, 0, none⟩ = some v1 := zC hx1 0
    have a1 : W1.cell? ⟨w.heap.size, 1, none⟩ = some v2 := zC hx1 1
    have a2 : W1.cell? ⟨w.heap.size, 2, none⟩ = some v3 := zC hx1 2
    have a3 : W1.cell? ⟨w.heap.size, 3, none⟩ = some v4 := zC hx1 3
    have l0 : W1.cell? ⟨w.heap.size + 1, 0, none⟩ = some (.slice al l.length cl) := zC hy1 0
    have H1 := zH hb1
    clear hb1 hz1 hx1 hy1
    go_wp2_with (first | (go_at_call 89; refine (HC2.out _ H1.out).mono ?_; rintro e w3 ⟨rfl, hb3⟩; have l1 := zB hb3 l0; have H3 := zH (H1.out.trans (hb3.mono H1.out.size)); clear hb3 a0 a1 a2 a3 l0) | (go_at_call 88; refine (HC3.out _).mono ?_; rintro e w4 ⟨rfl, rfl⟩) | (go_at_call 90; refine (HC4.out _ H3.out).mono ?_; rintro e w5 ⟨rfl, hb5⟩; have H5 := zH (H3.out.trans (hb5.mono H3.out.size)); clear hb5 l1))
    go_ret2
    exact ⟨rfl, H5.out⟩
end
section
def greedy : Int → List (List Int) → List (List Int)
 | _, [] => []
 | last, m :: r => if headI m > last then m :: greedy (lastI m) r else greedy last r
end
section
open Go.RowKit Go.Shelf
theorem rn_lift {w : World} {lo b : Nat} {cur : Array Value} (hb : w.heap[b]? = some (.cells cur 31 (0, 0))) : ∀ (gs : List Row), (∀ p ∈ gs, RowAt w lo p) → (∀ p ∈ gs, 0 ≤ lastI p.2 ∧ lastI p.2 < 1000) → ∃ gl : List (RN w b), gl.map (fun x => (x.enc, x.nums)) = gs
 | [], _, _ => ⟨[], rfl⟩
 | p :: gs, h, h2 => by
  obtain ⟨gl, e⟩ := rn_lift hb gs (fun q hq => h q (List.mem_cons_of_mem _ hq)) (fun q hq => h2 q (List.mem_cons_of_mem _ hq))
  have hp := h p List.mem_cons_self
  refine ⟨(show RN w b from ⟨p, hp.1, h2 p List.mem_cons_self, hp.2.1, (hp.off hb).2⟩) :: gl, ?_⟩
  show (p.1, p.2) :: gl.map (fun x => (x.enc, x.nums)) = _
  rw [e]
theorem rn_flat {w : World} {b : Nat} (gl : List (RN w b)) : gl.flatMap (fun x => [x.enc]) = (gl.map fun x => (x.enc, x.nums)).flatMap rowC := by
 induction gl with
 | nil => rfl
 | cons x gl ih => rw [List.flatMap_cons, List.map_cons, List.flatMap_cons, ih]; rfl
theorem stable_rows (a : Option Addr) (lo c : Nat) (w : World) (gs : List Row) (hL : LL w lo (.slice a gs.length c) gs) (hne : gs ≠ []) (hl : gs.length < 20) (hb : ∀ p ∈ gs, 0 ≤ lastI p.2 ∧ lastI p.2 < 1000) (hs : ∀ j x y, (nums gs)[j]? = some x → (nums gs)[j + 1]? = some y → lastI x ≤ lastI y) :
 Calls Tryz.prog 105 #[.slice a gs.length c, .func (.func 106) #[] #[]] w fun e w' => e = .returned (.tuple #[]) ∧ Below w.heap.size w w' := by
 rcases hL.1.2 with ⟨e, h0⟩ | ⟨b, off, cap, cur, hv, hS, hg, hnc, hm, hsz, ht⟩
 ·exact absurd (List.eq_nil_of_length_eq_zero h0) hne
 ·injection hv with e1 e2 e3
  subst e1; subst e3
  obtain ⟨gl, egl⟩ := rn_lift hg gs hL.2 hb
  have hlen : gl.length = gs.length := by rw [← egl, List.length_map]
  have hwl : Win (fun x : RN w b => [x.enc]) 1 31 w (.slice (some ⟨b, off, none⟩) gl.length c) (fun i => lo ≤ i) gl := by
   refine (?_ : WinC _ _ _ _ _ _ _)
   rw [rn_flat, egl, hlen]
   exact hL.1
  have hst := stable_sorted b off c _ w gl hwl (fun j x y hx hy => by
   refine hs j _ _ ?_ ?_
   ·rw [nums, ← egl, List.map_map, List.getElem?_map, hx]; rfl
   ·rw [nums, ← egl, List.map_map, List.getElem?_map, hy]; rfl) (by omega) (fun h => hne (by rw [← egl, h]; rfl))
  rw [hlen] at hst
  exact hst
theorem greedy_drop {m : List (List Int)} {k : Nat} {x : List Int} {last : Int} (h : m[k]? = some x) : greedy last (m.drop k) = if headI x > last then x :: greedy (lastI x) (m.drop (k + 1)) else greedy last (m.drop (k + 1)) := by
 obtain ⟨hk, rfl⟩ := List.getElem?_eq_some_iff.1 h
 rw [List.drop_eq_getElem_cons hk, greedy]
set_option maxRecDepth 1000000 in
set_option maxHeartbeats 32000000 in
theorem pick_sorted (l : List Ev) (al : Option Addr) (cl : Nat) (hcl : l.length ≤ cl) (x : Node) (v : Value) (near : Int) (same : Bool) (srcs : Int) (w : World) (hr : Rd Ev.cells 5 w (.slice al l.length cl) l) (hk : RdK w x.ks v) (m : List (List Int)) (hm : allRes srcs l x near same = (m, 0)) (hne : m ≠ []) (hl : m.length < 20)
 (hs : ∀ j x y, m[j]? = some x → m[j + 1]? = some y → lastI x ≤ lastI y) (hb : ∀ x ∈ m, 0 ≤ lastI x ∧ lastI x < 1000) :
 Calls Tryz.prog 30 #[.agg (queryA x v near same), .int .i64 srcs, .slice al l.length cl] w fun e w' => ∃ v', e = .returned (.tuple #[v', .int .i64 0]) ∧ OwnRowsR w w' v' (greedy (-1) m) ∧ Below w.heap.size w w' := by
 have hall := fun W (hW : Below w.heap.size w W) => all_out l al cl hcl x v near same srcs W (hr.below hW) (hk.below hW)
 rw [hm] at hall
 have HALL := zH hall
 have HS := zH (zA hne (zA hs hb))
 obtain ⟨a0, c0, rfl⟩ : ∃ a c, v = .slice a x.ks.len c := by obtain ⟨a, c, e, _⟩ := hk; exact ⟨a, c, e⟩
 clear hall hr hk hm hne hs hb
 go_enter Tryz.func30, Tryz.ntmps30
 go_wp2_with fail
 refine zX (G := fun W => Calls _ _ _ W _) w _ _ fun W1 hb1 hz1 hx1 => ?_
 refine (HALL.out W1 hb1).mono ?_
 rintro e w2 ⟨v2, rfl, ⟨a2, gs, rfl, hn, hL, _⟩, hb2⟩
 have hlen : gs.length = m.length := by rw [← hn, nums_len]
 have hst := stable_rows a2 _ gs.length w2 gs hL (fun h => HS.out.1 (by rw [← hn, h]; rfl)) (by omega) (fun p hp => HS.out.2.2 p.2 (by rw [← hn]; exact List.mem_map.2 ⟨p, hp, rfl⟩)) (by rw [hn]; exact HS.out.2.1)
 have HST := zH hst
 have hl20 : gs.length < 20 := by omega
 have H2 := zH (zA hn (zA hL (zA (hb1.trans (hb2.mono hb1.size)) hb1)))
 have hlen1 : gs.length ≤ m.length := by omega
 have hlen2 : m.length ≤ gs.length := by omega
 clear hst hn hL hb1 hb2 hx1 hz1 hlen
 go_wp2_with (go_at_call 105; refine HST.out.mono ?_; rintro e w3 ⟨rfl, hb3⟩; have H3 := zH hb3; clear hb3)
 go_loopw [10, 11, 28] (fun q o j W => ∃ (k : Nat) (last : Int) (aO : Option Addr) (cO : Nat) (os : List Row), q = .int .i64 last ∧ o = .slice aO os.length cO ∧ j = .int .i64 k ∧ k ≤ gs.length ∧ nums os ++ greedy last (m.drop k) = greedy (-1) m ∧ LL W w.heap.size (.slice aO os.length cO) os ∧ (∀ i, some i = (Value.slice aO os.length cO).ownBlock → w3.heap.size ≤ i) ∧ os.length ≤ k ∧ Below w3.heap.size w3 W) (fun _ _ j _ => gs.length - (intOf j).toNat)
 case atStart => exact ⟨0, -1, none, 0, [], rfl, rfl, rfl, by omega, rfl, LL.nil _ _, fun i hi => by simp [Value.ownBlock] at hi, by simp, Below.refl _ _⟩
 case round =>
  obtain ⟨k, last, aO, cO, os, rfl, rfl, rfl, hk, hg, hL, hown, hol, hB⟩ := hrel
  by_cases hlt : k < gs.length
  rotate_left
  ·obtain rfl : k = gs.length := by omega
   have hgr : nums os = greedy (-1) m := by rw [← hg, List.drop_of_length_le (by omega)]; simp [greedy]
   have hclip : Calls Tryz.prog 107 #[.slice aO os.length cO] wr fun e w' => e = .returned (.slice aO os.length os.length) ∧ wr = w' := by
    rcases hL.1.2 with ⟨e, h0⟩ | ⟨b, off, _, _, e, _, _, hnc, _⟩
    ·injection e with e1 e2 e3
     have e4 : os = [] := List.eq_nil_of_length_eq_zero h0
     subst e4; subst e1; subst e3
     exact clipL_nil wr
    ·injection e with e1 e2 e3
     subst e1; subst e3
     exact clipL_any b off os.length cO hnc wr
   have HCL := zH hclip
   have HY := zH (zA hgr (zA hL hB))
   clear hg hL hown hB hclip hgr
   go_wp2_with (go_at_call 107; refine HCL.out.mono ?_; rintro e w9 ⟨rfl, rfl⟩)
   go_ret2
   obtain ⟨hgr, hL, hB⟩ := HY.out
   have hb23 := H2.out.2.2.1.trans (H3.out.mono H2.out.2.2.1.size)
   refine ⟨_, rfl, ⟨aO, os, rfl, hgr, ?_⟩, hb23.trans (hB.mono hb23.size)⟩
   rcases hL.1.2 with ⟨e, h0⟩ | ⟨b, off, _, _, e, _, _, hnc, _⟩
   ·have e4 : os = [] := List.eq_nil_of_length_eq_zero h0
    injection e with e1 e2 e3
    subst e4; subst e1
    exact LL.nil _ _
   ·injection e with e1 e2 e3
    subst e1
    exact ⟨win_end hL.1 rfl, hL.2⟩
  have hx := List.getElem?_eq_getElem hlt
  generalize gs[k] = row at hx
  have hmx : m[k]? = some row.2 := by rw [← H2.out.1]; exact nums_get hx
  have hgd := greedy_drop (last := last) hmx
  have hbx := HS.out.2.2 row.2 (List.mem_of_getElem? hmx)
  have hLw := (H2.out.2.1.below H3.out).below hB
  obtain ⟨rv, y⟩ := row
  obtain ⟨bA, oA, bx, ox, cx, rfl, ex, q1, ry⟩ := hLw.cell hx
  dsimp only at ex q1 hmx hgd hbx
  subst ex
  obtain ⟨qh, ql, ylen, y63⟩ := ry.ends
  obtain ⟨py, hpy⟩ : ∃ py, py = y.length - 1 := ⟨_, rfl⟩
  rw [← hpy] at ql
  have hwy : IntKind.i64.wrap ((y.length : Int) - 1) = (py : Int) := by rw [Go.IntWalk.i64_in _ (by omega)]; omega
  have n1 : (k : Int) < (gs.length : Int) := by omega
  have n2 : (0 : Int) < (y.length : Int) := by omega
  have n3 : (py : Int) < (y.length : Int) := by omega
  have hry := ry.mono (lo' := w.heap.size) H2.out.2.2.2.size
  have hal := fun o => (Below.refl wr.heap.size wr).alloc (Nat.le_refl _) o
  have q1a := fun o => zB (hal o) q1
  by_cases hh : headI y > last
  ·rw [if_pos hh] at hgd
   have hd : decide (last < headI y) = true := decide_eq_true hh
   have hL9 := fun o => hL.below (hal o)
   have HY := zH (zA hg (zA hL (zA hown (zA hB (zA hgd (zA hry hL9))))))
   have hlast : last < headI y := hh
   have ql4 : ∀ w4, Fr (fun i => some i = (Value.slice aO os.length cO).ownBlock) (wr.alloc (.cells #[.slice (some ⟨bx, ox, none⟩) y.length cx] 31)) w4 → w4.cell? ⟨bx, ox + py, none⟩ = some (.int .i64 (lastI y)) := fun w4 h => fr_cell h (zB (hal _) ql) (fun hi => by
    obtain ⟨_, cur, q, hg'⟩ := hry.2.2 bx rfl
    exact (hL9 (.cells #[.slice (some ⟨bx, ox, none⟩) y.length cx] 31)).type bx hi cur q (((hal _).block bx (Array.getElem?_eq_some_iff.1 hg').1).trans hg'))
   have HQ := zH ql4
   clear hg hL hown hB hgd hry hL9 hx hmx hbx hLw ry ylen y63 hpy hh ql4 hal q1a
   go_wp2_with (at_builtin; (refine wpList_append_win _ (by rfl) _ _ _ (by rfl) 31 1 24 _ Tryz.underlying44 info_row rfl (by decide) _ _ os.length _ (by rfl) (winC_block (HY.out.2.2.2.2.2.2 _).1) _ _ _ [.slice (some ⟨bx, ox, none⟩) y.length cx] (by rfl) (by rfl) (news1 wr _ _) (by simp [Value.oneCell']) (by decide) (by unfold maxLen; omega) (by omega) ?_); intro u w10 hwin10 hfr10 hsz10; obtain ⟨a10, c10, rfl, hc10, hm10⟩ := zS hwin10; have qn := HQ.out w10 hfr10; have H10 := zH (zA hwin10 hfr10); clear hwin10 hfr10 hsz10 qh ql)
   go_roundw
   case rel =>
    obtain ⟨hg, hL, hown, hB, hgd, hry, hL9⟩ := HY.out
    have hb10 := (Below.refl wr.heap.size wr).alloc (Nat.le_refl _) (.cells #[.slice (some ⟨bx, ox, none⟩) y.length cx] 31)
    have hB10 := hB.trans (hb10.mono hB.size)
    have hlw : w.heap.size ≤ (wr.alloc (.cells #[.slice (some ⟨bx, ox, none⟩) y.length cx] 31)).heap.size := by have h1 := H2.out.2.2.1.size; have h2 := H3.out.size; have h3 := hB10.size; omega
    have hp := LL.push (ps := [(.slice (some ⟨bx, ox, none⟩) y.length cx, y)]) (hL9 (.cells #[.slice (some ⟨bx, ox, none⟩) y.length cx] 31)) (by intro p hp; rw [List.mem_singleton] at hp; subst hp; exact hry.below hb10) hlw (m := 1) rfl (zN H10.out.1 fun j hj => hj.imp (fun h => ⟨h.1.2.1, h.2⟩) id) H10.out.2
    refine ⟨k + 1, lastI y, a10, c10, os ++ [(.slice (some ⟨bx, ox, none⟩) y.length cx, y)], rfl, by simp, by go_num, by omega, ?_, by simpa using hp.1, fun i hi => ?_, by simp; omega, hB10.trans (zO H10.out.2 hB10.size fun i hi => hown i hi)⟩
    ·rw [← hg, hgd]
     simp [nums]
    ·have h1 := winC_ob H10.out.1 i (by simpa [Value.ownBlock] using hi)
     rcases h1.1 with h | h
     ·exact hown i h.1.1
     ·have := hB10.size; omega
   case measure => simp [intOf]; omega
  ·rw [if_neg hh] at hgd
   have hd : ¬ last < headI y := hh
   have HY := zH (zA hg (zA hL (zA hown (zA hB hgd))))
   clear hg hL hown hB hgd hry hx hmx hbx hLw ry ylen y63 hpy hh hal q1a ql
   go_wp2
   go_roundw
   case rel =>
    obtain ⟨hg, hL, hown, hB, hgd⟩ := HY.out
    exact ⟨k + 1, last, aO, cO, os, rfl, rfl, by go_num, by omega, by rw [← hg, hgd], hL, hown, by omega, hB⟩
   case measure => simp [intOf]; omega
end
section
def tA : Test := ⟨0, 0, 9⟩
def tB : Test := ⟨1, 5, 5⟩
def tC : Test := ⟨0, 2, 2⟩
def oneN (t : Test) : Node := ⟨1, t, 0, .nil⟩
def thenN (n : Int) (a b : Node) : Node := ⟨2, zeroT, n, .cons a.op a.t a.n a.ks (.cons b.op b.t b.n b.ks .nil)⟩
def manyN (n : Int) (a : Node) : Node := ⟨4, zeroT, n, .cons a.op a.t a.n a.ks .nil⟩
def lackN (n : Int) (a c b : Node) : Node := ⟨5, zeroT, n, .cons a.op a.t a.n a.ks (.cons c.op c.t c.n c.ks (.cons b.op b.t b.n b.ks .nil))⟩
def abN : Node := thenN 10 (oneN tA) (oneN tB)
def ev4 : List Ev := [⟨0, 1, 10, 0, 1⟩, ⟨1, 1, 12, 0, 5⟩, ⟨0, 2, 15, 0, 2⟩, ⟨1, 2, 20, 0, 5⟩]
theorem form_ab : formOf abN = .thn 10 (.one tA) (.one tB) := formOf_eq ⟨rfl, rfl, rfl, _, _, _, _, _, _, _, _, rfl, ⟨rfl, rfl, rfl, rfl⟩, ⟨rfl, rfl, rfl, rfl⟩⟩
theorem form_many (n : Int) : formOf (manyN n (oneN tA)) = .many n (.one tA) := formOf_eq ⟨rfl, rfl, rfl, _, _, _, _, rfl, ⟨rfl, rfl, rfl, rfl⟩⟩
theorem form_manyab (n : Int) : formOf (manyN n abN) = .many n (.thn 10 (.one tA) (.one tB)) := formOf_eq ⟨rfl, rfl, rfl, _, _, _, _, rfl, ⟨rfl, rfl, rfl, _, _, _, _, _, _, _, _, rfl, ⟨rfl, rfl, rfl, rfl⟩, ⟨rfl, rfl, rfl, rfl⟩⟩⟩
theorem form_lack : formOf (lackN 10 (oneN tA) (oneN tC) (oneN tB)) = .lack 10 (.one tA) tC (.one tB) := formOf_eq ⟨rfl, rfl, rfl, _, _, _, _, _, _, _, _, rfl, ⟨rfl, rfl, rfl, rfl⟩, ⟨rfl, rfl, rfl, rfl⟩⟩
theorem res_ab : allRes 2 ev4 abN 200 false = ([[0, 1], [0, 3], [2, 3]], 0) := by rw [allRes, form_ab]; kernel_rfl
theorem res_ab5 : allRes 2 ev4 abN 5 false = ([[0, 1], [2, 3]], 0) := by rw [allRes, form_ab]; kernel_rfl
theorem res_many : allRes 2 ev4 (manyN 10 (oneN tA)) 200 false = ([[0], [0, 2], [2]], 0) := by rw [allRes, form_many]; kernel_rfl
theorem res_lack : allRes 2 ev4 (lackN 10 (oneN tA) (oneN tC) (oneN tB)) 200 false = ([[0, 1], [2, 3]], 0) := by rw [allRes, form_lack]; kernel_rfl
theorem is_four : isRes 2 ev4 (manyN 4 (oneN tA)) 200 false [0, 2] = (false, 0) := by rw [isRes, form_many]; kernel_rfl
theorem is_five : isRes 2 ev4 (manyN 5 (oneN tA)) 200 false [0, 2] = (true, 0) := by rw [isRes, form_many]; kernel_rfl
theorem greedy_ab : greedy (-1) [[0, 1], [0, 3], [2, 3]] = [[0, 1], [2, 3]] := by kernel_rfl
def auK : Auto := ⟨[tA, tB], [0], [1], [⟨0, 1, 10, false, zeroT⟩, ⟨1, 0, 3, false, zeroT⟩]⟩
theorem auto_manyab : autoP (manyN 3 abN) = auK := by rw [autoP, form_manyab]; kernel_rfl
theorem query_manyab : queryP 2 (manyN 3 abN) 200 = true := by kernel_rfl
theorem run_auK : runRes 2 auK 200 false ev4 = ([[0, 1], [0, 1, 2, 3], [0, 3], [2, 3]], 0) := by kernel_rfl
end
section
open Go.RowKit Go.Shelf
set_option maxHeartbeats 4000000
def patsOf : List (Node × Value) → Pats
 | [] => .nil
 | x :: r => .cons x.1.op x.1.t x.1.n x.1.ks (patsOf r)
theorem patsOf_len : ∀ l : List (Node × Value), (patsOf l).len = l.length
 | [] => rfl
 | x :: r => by rw [patsOf, Pats.len, patsOf_len r]; rfl
theorem rdPs_of {B : Nat} {w : World} {b : Nat} : ∀ (l : List (Node × Value)) (off : Nat), (∀ i x, l[i]? = some x → (∀ j u, (patA x.1 x.2)[j]? = some u → w.cell? ⟨b, off + i * 6 + j, none⟩ = some u) ∧ RdKB B w x.1.ks x.2) → RdPs B w (patsOf l) b off
 | [], _, _ => trivial
 | x :: r, off, h => by
  obtain ⟨h1, h2⟩ := h 0 x rfl
  simp only [Nat.zero_mul, Nat.add_zero] at h1
  obtain ⟨a, c, e, hr⟩ := h2
  exact ⟨⟨h1 0 _ rfl, h1 1 _ rfl, h1 2 _ rfl, h1 3 _ rfl, h1 4 _ rfl⟩, ⟨a, c, by rw [h1 5 _ rfl, e]; rfl, hr⟩, rdPs_of r (off + 6) fun i y hy => by
   obtain ⟨g1, g2⟩ := h (i + 1) y (by simpa using hy)
   exact ⟨fun j u hu => by rw [← g1 j u hu]; congr 2; omega, g2⟩⟩
theorem RdK.nil (w : World) : RdK w .nil (.slice none 0 0) := ⟨none, 0, rfl, Nat.le_refl _, by decide, fun h => absurd h (by simp [Pats.len])⟩
theorem kids_box {w : World} (T : TypeId) (l : List (Node × Value)) (b n : Nat) (cs : Array Value) (h : w.heap[b]? = some (.cells cs T (0, 0)))
 (hc : ∀ i x, l[i]? = some x → ∀ j u, (patA x.1 x.2)[j]? = some u → cs[0 + i * 6 + j]? = some u) (hn : l.length = n) (hm : n ≤ 1000) (hs : ∀ p ∈ l, RdK w p.1.ks p.2) : RdK w (patsOf l) (.slice (some ⟨b, 0, none⟩) n n) := by
 subst hn
 have hb : b < w.heap.size := (Array.getElem?_eq_some_iff.1 h).1
 refine ⟨some ⟨b, 0, none⟩, l.length, by rw [patsOf_len], by rw [patsOf_len]; exact Nat.le_refl _, by rw [patsOf_len]; omega, fun _ => ⟨b, 0, rfl, hb, rdPs_of l 0 fun i x hx => ⟨fun j u hu => ?_, hs x (List.mem_of_getElem? hx)⟩⟩⟩
 rw [zC h]
 exact hc i x hx j u hu
theorem heap_last4 (w : World) (a b c d : Obj) : ((((w.alloc a).alloc b).alloc c).alloc d).heap[w.heap.size + 1 + 1 + 1]? = some d := by
 have := heap_alloc_new (((w.alloc a).alloc b).alloc c) d
 simpa only [World.size_alloc] using this
theorem heap_last3 (w : World) (a b c : Obj) : (((w.alloc a).alloc b).alloc c).heap[w.heap.size + 1 + 1]? = some c := by
 have := heap_alloc_new ((w.alloc a).alloc b) c
 simpa only [World.size_alloc] using this
theorem heap_last5 (w : World) (a b c d e : Obj) : (((((w.alloc a).alloc b).alloc c).alloc d).alloc e).heap[w.heap.size + 1 + 1 + 1 + 1]? = some e := by
 have := heap_alloc_new ((((w.alloc a).alloc b).alloc c).alloc d) e
 simpa only [World.size_alloc] using this
theorem below2 (w : World) (a b : Obj) : Below w.heap.size w ((w.alloc a).alloc b) := ((Below.refl w.heap.size w).alloc (Nat.le_refl _) a).alloc (by simp) b
theorem below3 (w : World) (a b c : Obj) : Below w.heap.size w (((w.alloc a).alloc b).alloc c) := (below2 w a b).alloc (by simp; omega) c
theorem below4 (w : World) (a b c d : Obj) : Below w.heap.size w ((((w.alloc a).alloc b).alloc c).alloc d) := (below3 w a b c).alloc (by simp; omega) d
theorem below5 (w : World) (a b c d e : Obj) : Below w.heap.size w (((((w.alloc a).alloc b).alloc c).alloc d).alloc e) := (below4 w a b c d).alloc (by simp; omega) e
theorem one_lit (s lo hi : Int) (w : World) : Calls Tryz.prog 72 #[.int .i64 s, .int .i64 lo, .int .i64 hi] w fun e w' => e = .returned (.agg #[.int .i64 1, .int .i64 s, .int .i64 lo, .int .i64 hi, .int .i64 0, .slice none 0 0]) ∧ Below w.heap.size w w' := by
 go_enter Tryz.func72, Tryz.ntmps72
 go_wp2
 refine bodyPost_ret (v := .agg #[.int .i64 1, .int .i64 s, .int .i64 lo, .int .i64 hi, .int .i64 0, .slice none 0 0]) (by simp [results, Tryz.results72, go_sem]) rfl ?_
 exact ⟨rfl, (Below.refl _ _).alloc (Nat.le_refl _) _⟩
theorem one_law (s lo hi : Int) (w : World) : Calls Tryz.prog 72 #[.int .i64 s, .int .i64 lo, .int .i64 hi] w fun e w' => e = .returned (.agg (patA (oneN ⟨s, lo, hi⟩) (.slice none 0 0))) ∧ Below w.heap.size w w' := one_lit s lo hi w
theorem then_law (n : Int) (x y : Node) (va vb : Value) (w : World) (hx : RdK w x.ks va) (hy : RdK w y.ks vb) : Calls Tryz.prog 41 #[.int .i64 n, .agg (patA x va), .agg (patA y vb)] w fun e w' => ∃ v, e = .returned (.agg (patA (thenN n x y) v)) ∧ RdK w' (thenN n x y).ks v ∧ Below w.heap.size w w' := by
 have HS := zH (zA hx hy)
 clear hx hy
 go_enter Tryz.func41, Tryz.ntmps41
 go_wp2
 refine bodyPost_ret (v := .agg (patA (thenN n x y) (.slice (some ⟨w.heap.size + 1 + 1 + 1, 0, none⟩) 2 2))) (by simp [results, Tryz.results41, go_sem]; exact ⟨rfl, rfl, rfl, rfl, rfl⟩) rfl ?_
 have hb := below4 w
 refine ⟨_, rfl, kids_box 27 [(x, va), (y, vb)] _ 2 _ (heap_last4 w _ _ _ _) (fun i p hp j u hu => ?_) rfl (by decide) ?_, below4 w _ _ _ _⟩
 ·match i, hp with
  | 0, hp => cases hp; match j, hu with | 0, hu | 1, hu | 2, hu | 3, hu | 4, hu | 5, hu => exact hu
  | 1, hp => cases hp; match j, hu with | 0, hu | 1, hu | 2, hu | 3, hu | 4, hu | 5, hu => exact hu
 ·intro p hp
  rcases List.mem_cons.1 hp with rfl | hp
  ·exact HS.out.1.below (below4 w _ _ _ _)
  ·rcases List.mem_cons.1 hp with rfl | hp
   ·exact HS.out.2.below (below4 w _ _ _ _)
   ·cases hp
theorem many_law (n : Int) (x : Node) (va : Value) (w : World) (hx : RdK w x.ks va) : Calls Tryz.prog 73 #[.int .i64 n, .agg (patA x va)] w fun e w' => ∃ v, e = .returned (.agg (patA (manyN n x) v)) ∧ RdK w' (manyN n x).ks v ∧ Below w.heap.size w w' := by
 have HS := zH hx
 clear hx
 go_enter Tryz.func73, Tryz.ntmps73
 go_wp2
 refine bodyPost_ret (v := .agg (patA (manyN n x) (.slice (some ⟨w.heap.size + 1 + 1, 0, none⟩) 1 1))) (by simp [results, Tryz.results73, go_sem]; exact ⟨rfl, rfl, rfl, rfl, rfl⟩) rfl ?_
 refine ⟨_, rfl, kids_box 27 [(x, va)] _ 1 _ (heap_last3 w _ _ _) (fun i p hp j u hu => ?_) rfl (by decide) ?_, below3 w _ _ _⟩
 ·match i, hp with
  | 0, hp => cases hp; match j, hu with | 0, hu | 1, hu | 2, hu | 3, hu | 4, hu | 5, hu => exact hu
 ·intro p hp
  rcases List.mem_cons.1 hp with rfl | hp
  ·exact HS.out.below (below3 w _ _ _)
  ·cases hp
theorem lack_law (n : Int) (x y z : Node) (va vb vc : Value) (w : World) (hx : RdK w x.ks va) (hy : RdK w y.ks vb) (hz : RdK w z.ks vc) : Calls Tryz.prog 42 #[.int .i64 n, .agg (patA x va), .agg (patA y vb), .agg (patA z vc)] w fun e w' => ∃ v, e = .returned (.agg (patA (lackN n x y z) v)) ∧ RdK w' (lackN n x y z).ks v ∧ Below w.heap.size w w' := by
 have HS := zH (zA hx (zA hy hz))
 clear hx hy hz
 go_enter Tryz.func42, Tryz.ntmps42
 go_wp2
 refine bodyPost_ret (v := .agg (patA (lackN n x y z) (.slice (some ⟨w.heap.size + 1 + 1 + 1 + 1, 0, none⟩) 3 3))) (by simp [results, Tryz.results42, go_sem]; exact ⟨rfl, rfl, rfl, rfl, rfl⟩) rfl ?_
 refine ⟨_, rfl, kids_box 27 [(x, va), (y, vb), (z, vc)] _ 3 _ (heap_last5 w _ _ _ _ _) (fun i p hp j u hu => ?_) rfl (by decide) ?_, below5 w _ _ _ _ _⟩
 ·match i, hp with
  | 0, hp => cases hp; match j, hu with | 0, hu | 1, hu | 2, hu | 3, hu | 4, hu | 5, hu => exact hu
  | 1, hp => cases hp; match j, hu with | 0, hu | 1, hu | 2, hu | 3, hu | 4, hu | 5, hu => exact hu
  | 2, hp => cases hp; match j, hu with | 0, hu | 1, hu | 2, hu | 3, hu | 4, hu | 5, hu => exact hu
 ·intro p hp
  rcases List.mem_cons.1 hp with rfl | hp
  ·exact HS.out.1.below (below5 w _ _ _ _ _)
  ·rcases List.mem_cons.1 hp with rfl | hp
   ·exact HS.out.2.1.below (below5 w _ _ _ _ _)
   ·rcases List.mem_cons.1 hp with rfl | hp
    ·exact HS.out.2.2.below (below5 w _ _ _ _ _)
    ·cases hp
theorem query_law (x : Node) (va : Value) (near : Int) (w : World) (hk : RdK w x.ks va) : Calls Tryz.prog 39 #[.agg (patA x va), .int .i64 near] w fun e w' => e = .returned (.agg (queryA x va near false)) ∧ Below w.heap.size w w' := by
 obtain ⟨a, c, rfl, _⟩ := hk
 go_enter Tryz.func39, Tryz.ntmps39
 go_wp2
 refine bodyPost_ret (v := .agg (queryA x (.slice a x.ks.len c) near false)) (by simp [results, Tryz.results39, go_sem]) rfl ?_
 exact ⟨rfl, below2 w _ _⟩
set_option maxHeartbeats 2000000 in
theorem a_law (w : World) : Calls Tryz.prog 70 #[] w fun e w' => e = .returned (.agg (patA (oneN tA) (.slice none 0 0))) ∧ Below w.heap.size w w' := by
 go_enter Tryz.func70, Tryz.ntmps70
 go_wp2_with fail
 refine zX (G := fun W => Calls _ _ _ W _) w _ _ fun w1 hb1 hz1 hx1 => ?_
 refine (one_lit _ _ _ w1).mono ?_
 rintro e w2 ⟨rfl, hb⟩
 have hx2 := (hb.block w.heap.size (by omega)).trans hx1
 have HX := zH (zA hx2 (zA hb1 hb))
 have c0 := zC hx2 0
 have c1 := zC hx2 1
 have c2 := zC hx2 2
 have c3 := zC hx2 3
 have c4 := zC hx2 4
 have c5 := zC hx2 5
 have f0 := zK hx2 0
 have f1 := zK hx2 1
 have f2 := zK hx2 2
 have f3 := zK hx2 3
 have f4 := zK hx2 4
 have f5 := zK hx2 5
 clear hx2 hx1 hb1 hb hz1
 go_wp2
 have hp := put6 HX.out.1 (.int .i64 1) (.int .i64 0) (.int .i64 0) (.int .i64 9) (.int .i64 0) (.slice none 0 0)
 have g0 := zC hp.1 0
 have g1 := zC hp.1 1
 have g2 := zC hp.1 2
 have g3 := zC hp.1 3
 have g4 := zC hp.1 4
 have g5 := zC hp.1 5
 have HF := zH hp.2
 clear hp c0 c1 c2 c3 c4 c5 f0 f1 f2 f3 f4 f5
 generalize World.setCell _ _ _ = W at g0 g1 g2 g3 g4 g5 HF ⊢
 refine bodyPost_ret (v := .agg (patA (oneN tA) (.slice none 0 0))) (by simp [results, Tryz.results70, go_sem, g0, g1, g2, g3, g4, g5]; exact ⟨rfl, rfl, rfl, rfl, rfl⟩) rfl ?_
 exact ⟨rfl, HX.out.2.1.trans ((HX.out.2.2.mono HX.out.2.1.size).trans (zO HF.out (Nat.le_trans HX.out.2.1.size HX.out.2.2.size) fun i hi => by omega))⟩
set_option maxHeartbeats 2000000 in
theorem b_law (w : World) : Calls Tryz.prog 71 #[] w fun e w' => e = .returned (.agg (patA (oneN tB) (.slice none 0 0))) ∧ Below w.heap.size w w' := by
 go_enter Tryz.func71, Tryz.ntmps71
 go_wp2_with fail
 refine zX (G := fun W => Calls _ _ _ W _) w _ _ fun w1 hb1 hz1 hx1 => ?_
 refine (one_lit _ _ _ w1).mono ?_
 rintro e w2 ⟨rfl, hb⟩
 have hx2 := (hb.block w.heap.size (by omega)).trans hx1
 have HX := zH (zA hx2 (zA hb1 hb))
 have c0 := zC hx2 0
 have c1 := zC hx2 1
 have c2 := zC hx2 2
 have c3 := zC hx2 3
 have c4 := zC hx2 4
 have c5 := zC hx2 5
 have f0 := zK hx2 0
 have f1 := zK hx2 1
 have f2 := zK hx2 2
 have f3 := zK hx2 3
 have f4 := zK hx2 4
 have f5 := zK hx2 5
 clear hx2 hx1 hb1 hb hz1
 go_wp2
 have hp := put6 HX.out.1 (.int .i64 1) (.int .i64 1) (.int .i64 5) (.int .i64 5) (.int .i64 0) (.slice none 0 0)
 have g0 := zC hp.1 0
 have g1 := zC hp.1 1
 have g2 := zC hp.1 2
 have g3 := zC hp.1 3
 have g4 := zC hp.1 4
 have g5 := zC hp.1 5
 have HF := zH hp.2
 clear hp c0 c1 c2 c3 c4 c5 f0 f1 f2 f3 f4 f5
 generalize World.setCell _ _ _ = W at g0 g1 g2 g3 g4 g5 HF ⊢
 refine bodyPost_ret (v := .agg (patA (oneN tB) (.slice none 0 0))) (by simp [results, Tryz.results71, go_sem, g0, g1, g2, g3, g4, g5]; exact ⟨rfl, rfl, rfl, rfl, rfl⟩) rfl ?_
 exact ⟨rfl, HX.out.2.1.trans ((HX.out.2.2.mono HX.out.2.1.size).trans (zO HF.out (Nat.le_trans HX.out.2.1.size HX.out.2.2.size) fun i hi => by omega))⟩
theorem event_law (s i v a : Int) (w : World) : Calls Tryz.prog 74 #[.int .i64 s, .int .i64 i, .int .i64 v, .int .i64 a] w fun e w' => e = .returned (.agg #[.int .i64 s, .int .i64 i, .int .i64 a, .int .i64 0, .int .i64 v]) ∧ Below w.heap.size w w' := by
 go_enter Tryz.func74, Tryz.ntmps74
 go_wp2
 refine bodyPost_ret (v := .agg #[.int .i64 s, .int .i64 i, .int .i64 a, .int .i64 0, .int .i64 v]) (by simp [results, Tryz.results74, go_sem]) rfl ?_
 exact ⟨rfl, (Below.refl _ _).alloc (Nat.le_refl _) _⟩
theorem rd_box {α : Type} {enc : α → List Value} {k : Nat} (hk : ∀ x, (enc x).length = k) (e : Nat) {w : World} (xs : List α) (b n : Nat) (cs : Array Value) (h : w.heap[b]? = some (.cells cs e (0, 0))) (hc : cs.toList = xs.flatMap enc) (hn : xs.length = n) (hm : n ≤ maxLen) :
 Rd enc k w (.slice (some ⟨b, 0, none⟩) n n) xs := by
 subst hn
 refine ⟨by unfold maxLen at hm; omega, some ⟨b, 0, none⟩, _, rfl, fun _ => ⟨b, 0, rfl, (Array.getElem?_eq_some_iff.1 h).1, fun i x hx j u hu => ?_⟩⟩
 rw [zC h, ← Array.getElem?_toList, hc, Nat.zero_add]
 exact flat_get hk xs i x hx j u hu
theorem events_law (w : World) : Calls Tryz.prog 69 #[] w fun e w' => ∃ b, e = .returned (.slice (some ⟨b, 0, none⟩) 4 4) ∧ Rd Ev.cells 5 w' (.slice (some ⟨b, 0, none⟩) 4 4) ev4 ∧ Below w.heap.size w w' := by
 go_enter Tryz.func69, Tryz.ntmps69
 go_wp2_with (go_at_call 74; refine (event_law _ _ _ _ _).mono ?_; first | (rintro e w5 ⟨rfl, hb5⟩; have h5 := h4.trans (hb5.mono h4.size)) | (rintro e w4 ⟨rfl, hb4⟩; have h4 := h3.trans (hb4.mono h3.size)) | (rintro e w3 ⟨rfl, hb3⟩; have h3 := h2.trans (hb3.mono h2.size)) | (rintro e w2 ⟨rfl, h2⟩))
 go_ret
 exact ⟨_, rfl, rd_box (enc := Ev.cells) (k := 5) (fun _ => rfl) 76 ev4 _ 4 _ (heap_alloc_new w5 _) rfl rfl (by decide), h5.trans ((Below.refl w5.heap.size w5).alloc (Nat.le_refl _) _ |>.mono h5.size)⟩
end
section
open Go.RowKit Go.Shelf
theorem LL.rdLL {w : World} {lo : Nat} {v : Value} {gs : List Row} (h : LL w lo v gs) : RdLL w v (nums gs) := by
 refine ⟨gs.map (·.1), by simp [nums], ?_, fun i u x hu hx => ?_⟩
 ·obtain ⟨h0, a, c, hv, hr⟩ := win_rd row_len h.1
  refine ⟨by simpa using h0, a, c, by simpa using hv, fun hp => ?_⟩
  obtain ⟨b, off, ha, hb, hc⟩ := hr (by simpa using hp)
  refine ⟨b, off, ha, hb, fun i x hx j u hu => ?_⟩
  rw [List.getElem?_map] at hx
  cases hg : gs[i]? with
  | none => rw [hg] at hx; cases hx
  | some p =>
   rw [hg] at hx
   cases hx
   exact hc i p hg j u hu
 ·rw [List.getElem?_map] at hu
  unfold nums at hx
  rw [List.getElem?_map] at hx
  cases hg : gs[i]? with
  | none => rw [hg] at hx; cases hx
  | some p =>
   rw [hg] at hx hu
   cases hx
   cases hu
   exact (h.2 p (List.mem_of_getElem? hg)).2.1
theorem OwnRows.rdLL {w w' : World} {v : Value} {m : List (List Int)} (h : OwnRows w w' v m) : RdLL w' v m := by
 obtain ⟨a, gs, rfl, rfl, hL, _⟩ := h
 exact hL.rdLL
theorem OwnRowsR.rdLL {w w' : World} {v : Value} {m : List (List Int)} (h : OwnRowsR w w' v m) : RdLL w' v m := by
 obtain ⟨a, gs, rfl, rfl, hL⟩ := h
 exact hL.rdLL
theorem rdLL_box {W : World} (U T : TypeId) (b n : Nat) (cs : Array Value) (rows : List (Nat × List Int)) (h : W.heap[b]? = some (.cells cs U (0, 0))) (hc : cs.toList = rows.map fun p => .slice (some ⟨p.1, 0, none⟩) p.2.length p.2.length) (hn : rows.length = n) (hm : n ≤ 1000)
 (hr : ∀ p ∈ rows, p.2.length ≤ 1000 ∧ W.heap[p.1]? = some (.cells (p.2.map fun z => Value.int .i64 z).toArray T (0, 0))) : RdLL W (.slice (some ⟨b, 0, none⟩) n n) (rows.map Prod.snd) := by
 subst hn
 have hfl : ∀ vs : List Value, vs = vs.flatMap fun u => [u] := fun vs => by induction vs with | nil => rfl | cons u r ih => rw [List.flatMap_cons, ← ih]; rfl
 have hfi : ∀ zs : List Int, (zs.map fun z => Value.int .i64 z) = zs.flatMap intC := fun zs => by induction zs with | nil => rfl | cons u r ih => rw [List.flatMap_cons, ← ih]; rfl
 refine ⟨rows.map fun p => .slice (some ⟨p.1, 0, none⟩) p.2.length p.2.length, by simp, ?_, fun i u x hu hx => ?_⟩
 ·exact rd_box (enc := fun u : Value => [u]) (k := 1) (fun _ => rfl) U (rows.map fun p => Value.slice (some ⟨p.1, 0, none⟩) p.2.length p.2.length) b rows.length cs h (by rw [hc]; exact hfl _) (by simp) (by unfold maxLen; omega)
 ·rw [List.getElem?_map] at hu hx
  cases hg : rows[i]? with
  | none => rw [hg] at hx; cases hx
  | some p =>
   rw [hg] at hx hu
   cases hx
   cases hu
   obtain ⟨h1, h2⟩ := hr p (List.mem_of_getElem? hg)
   exact rd_box (enc := intC) (k := 1) (fun _ => rfl) T p.2 p.1 _ _ h2 (by rw [List.toList_toArray]; exact hfi _) rfl (by unfold maxLen; omega)
theorem alloc_old {w : World} {b : Nat} {x o : Obj} (h : w.heap[b]? = some x) : (w.alloc o).heap[b]? = some x := by
 have hb : b < w.heap.size := (Array.getElem?_eq_some_iff.1 h).1
 rw [Below.heap_alloc w o b hb]; exact h
theorem smalls_ok : ∀ m : List (List Int), (m.all fun x => x.all fun z => decide (-1000 ≤ z) && decide (z ≤ 1000)) = true → ∀ x ∈ m, smallL x := by
 intro m h x hx z hz
 have := List.all_eq_true.1 (List.all_eq_true.1 h x hx) z hz
 simp only [Bool.and_eq_true, decide_eq_true_eq] at this
 omega
theorem same_k (v1 v2 : Value) (m : List (List Int)) (w : World) (h1 : RdLL w v1 m) (h2 : RdLL w v2 m) (hs : ∀ x ∈ m, smallL x) :
 Calls Tryz.prog 20 #[v1, v2] w fun e w' => e = .returned (.bool true) ∧ Below w.heap.size w w' := by
 refine (refSame_any v1 v2 m m w h1 h2 hs hs).mono ?_
 rintro e w' ⟨rfl, h⟩
 rw [decide_eq_true (rfl : m = m)]
 exact ⟨rfl, h⟩
theorem found_law (x : Node) (v : Value) (near : Int) (u : Value) (m : List (List Int)) (w : World) (hk : RdK w x.ks v) (hu : RdLL w u m) (hm : allRes 2 ev4 x near false = (m, 0)) (hs : ∀ x ∈ m, smallL x) :
 Calls Tryz.prog 87 #[.agg (queryA x v near false), u] w fun e w' => e = .returned (.bool true) ∧ Below w.heap.size w w' := by
 obtain ⟨a0, c0, rfl⟩ : ∃ a c, v = .slice a x.ks.len c := by obtain ⟨a, c, e, _⟩ := hk; exact ⟨a, c, e⟩
 obtain ⟨au, cu, rfl⟩ := hu.form.1
 have hall := fun W b (hW : Below w.heap.size w W) (hr : Rd Ev.cells 5 W (.slice (some ⟨b, 0, none⟩) 4 4) ev4) => all_out ev4 (some ⟨b, 0, none⟩) 4 (Nat.le_refl _) x _ near false 2 W hr (hk.below hW)
 rw [hm] at hall
 have HALL := zH hall
 have HS := zH (zA hu hs)
 have EN1 := zH (enters_of Tryz.func69 (by kernel_rfl) rfl)
 have EN2 := zH (enters_of Tryz.func21 (by kernel_rfl) rfl)
 clear hall hk hu hm hs
 go_enter Tryz.func87, Tryz.ntmps87
 go_wp2_with fail
 refine zX (G := fun W => Code.wp _ _ _ _ W) w _ _ fun w2 hb2 hz2 hx2 => ?_
 have HS2 := zH (show ∀ W, Below w2.heap.size w2 W → W.cell? ⟨w.heap.size, 0, none⟩ = some (.int .i64 x.op) ∧ W.cell? ⟨w.heap.size, 1, none⟩ = some (.int .i64 x.t.src) ∧ W.cell? ⟨w.heap.size, 2, none⟩ = some (.int .i64 x.t.low) ∧ W.cell? ⟨w.heap.size, 3, none⟩ = some (.int .i64 x.t.high) ∧ W.cell? ⟨w.heap.size, 4, none⟩ = some (.int .i64 x.n) ∧ W.cell? ⟨w.heap.size, 5, none⟩ = some (.slice a0 x.ks.len c0) ∧ W.cell? ⟨w.heap.size, 6, none⟩ = some (.int .i64 near) ∧ W.cell? ⟨w.heap.size, 7, none⟩ = some (.bool false) from fun W hW =>
  ⟨zB hW (zC hx2 0), zB hW (zC hx2 1), zB hW (zC hx2 2), zB hW (zC hx2 3), zB hW (zC hx2 4), zB hW (zC hx2 5), zB hW (zC hx2 6), zB hW (zC hx2 7)⟩)
 have HB := zH hb2
 clear hb2 hx2 hz2
 try go_wp2_with fail
 refine zR 8 (S := fun W => W.cell? ⟨w.heap.size, 0, none⟩ = some (.int .i64 x.op) ∧ W.cell? ⟨w.heap.size, 1, none⟩ = some (.int .i64 x.t.src) ∧ W.cell? ⟨w.heap.size, 2, none⟩ = some (.int .i64 x.t.low) ∧ W.cell? ⟨w.heap.size, 3, none⟩ = some (.int .i64 x.t.high) ∧ W.cell? ⟨w.heap.size, 4, none⟩ = some (.int .i64 x.n) ∧ W.cell? ⟨w.heap.size, 5, none⟩ = some (.slice a0 x.ks.len c0) ∧ W.cell? ⟨w.heap.size, 6, none⟩ = some (.int .i64 near) ∧ W.cell? ⟨w.heap.size, 7, none⟩ = some (.bool false)) (by kernel_rfl) (by kernel_rfl) rfl (HS2.out _ (Below.refl _ _).drew) (fun hHeld => ?_)
 try simp only [List.reduceReplicate]
 repeat (first
  | refine takeA [] (h := ?_)
  | (refine callA [] (args := ?_) (R := ?_) (he := ?_) (hc := ?_) (hargs := ?_) (h := ?_)
     rotate_left 2
     first | (exact EN1.out; exact events_law _; rfl; rintro e wz ⟨b, rfl, hr, hbz⟩; have hbz' : Below w2.heap.size w2 wz := (Below.refl _ _).drew.trans hbz; refine .inl ⟨_, rfl, HS2.out _ hbz', fun hHeld => ?_⟩; have HBZ := zH (zA hbz' hr); clear hbz hbz' hr) | (exact EN2.out; exact HALL.out _ b (HB.out.trans (HBZ.out.1.mono HB.out.size)) HBZ.out.2; rfl; rintro e wy ⟨v', rfl, hown, hby⟩; have hby' : Below w2.heap.size w2 wy := HBZ.out.1.trans (hby.mono HBZ.out.1.size); refine .inl ⟨_, rfl, HS2.out _ hby', fun hHeld => ?_⟩; have HBY := zH (zA hby' hown); clear hby hby' hown)
     refine normA (h := ?_)))
 refine wpAnyH_done (by kernel_rfl) ?_ _
 clear hHeld
 have HR := zH (HBY.out.2.rdLL)
 have HU := zH (HS.out.1.below (HB.out.trans (HBY.out.1.mono HB.out.size)))
 go_wp2_with (go_at_call 20; refine (same_k _ _ m _ HR.out HU.out HS.out.2).mono ?_; rintro e w9 ⟨rfl, hb9⟩; have H9 := zH hb9; clear hb9)
 go_ret
 exact ⟨rfl, HB.out.trans ((HBY.out.1.trans (H9.out.mono HBY.out.1.size)).mono HB.out.size)⟩
end
section
theorem places_spec {n : Int} : ∀ {l : List Int} {p : Option Int}, placesFrom n p l = true → (∀ v ∈ l, 0 ≤ v ∧ v < n) ∧ l.Pairwise (· < ·) ∧ ∀ u, p = some u → ∀ v ∈ l, u < v
 | [], p, _ => ⟨by simp, .nil, by simp⟩
 | v :: l, p, h => by
  unfold placesFrom inP at h
  simp only [Bool.and_eq_true, decide_eq_true_eq] at h
  obtain ⟨⟨h1, h2⟩, h3⟩ := h
  obtain ⟨a, b, c⟩ := places_spec h3
  have c' := c v rfl
  refine ⟨fun u hu => ?_, List.pairwise_cons.2 ⟨c', b⟩, fun u hu w hw => ?_⟩
  ·rcases List.mem_cons.1 hu with rfl | hu
   ·omega
   ·exact a u hu
  ·subst hu
   simp only [decide_eq_true_eq] at h2
   rcases List.mem_cons.1 hw with rfl | hw
   ·exact h2
   ·have := c' w hw; omega
theorem edges_spec {srcs n : Int} : ∀ {l : List Edge} {p : Option Edge}, edgesFrom srcs n p l = true → ∀ e ∈ l, edgeGood srcs n e = true
 | [], _, _ => by simp
 | v :: l, p, h => by
  unfold edgesFrom at h
  simp only [Bool.and_eq_true] at h
  obtain ⟨⟨h1, _⟩, h3⟩ := h
  intro e he
  rcases List.mem_cons.1 he with rfl | he
  ·exact h1
  ·exact edges_spec h3 e he
theorem isAuto_spec {srcs : Int} {au : Auto} (h : isAutoP srcs au = true) : au.tests.length ≤ 12 ∧ (∀ f ∈ au.first, 0 ≤ f ∧ f < au.tests.length) ∧ (∀ f ∈ au.last, 0 ≤ f ∧ f < au.tests.length) ∧ (∀ e ∈ au.follow, (0 ≤ e.from_ ∧ e.from_ < au.tests.length) ∧ 0 ≤ e.to_ ∧ e.to_ < au.tests.length) ∧ au.first.length ≤ 12 ∧ au.last.length ≤ 12 := by
 unfold isAutoP at h
 simp only [Bool.and_eq_true, decide_eq_true_eq] at h
 obtain ⟨⟨⟨⟨h1, h2⟩, h3⟩, h4⟩, h5⟩ := h
 obtain ⟨a1, a2, _⟩ := places_spec h3
 obtain ⟨b1, b2, _⟩ := places_spec h4
 have c := edges_spec h5
 have l1 := inc_len au.first 0 au.tests.length a2 a1 (by omega)
 have l2 := inc_len au.last 0 au.tests.length b2 b1 (by omega)
 refine ⟨h1, a1, b1, fun e he => ?_, by omega, by omega⟩
 have := c e he
 unfold edgeGood inP at this
 simp only [Bool.and_eq_true, decide_eq_true_eq] at this
 omega
theorem run_found {srcs : Int} {l : List Ev} {au : Auto} {An : Nat → List (List Int)} {own : List Beg} {near : Int} {same : Bool} (hE : eventsP srcs l = true) (hK : KeptI An own l.length) (hl : ∀ p ∈ au.last, 0 ≤ p) (hr : runFrom au l l.length 0 [] = some own) :
 runP au near same l = some (setO ordL (au.last.flatMap fun p => (An p.toNat).filter fun m => askedP l m near same)) := by
 rw [run_final hK.kept au.last hl, runP, hr, Option.map_some]
 congr 3
 refine List.filter_congr fun y hy => ?_
 obtain ⟨h1, h2, h3⟩ := hK.inc y hy
 rw [near_asked hE h1 (fun i hi => ?_)]
 refine ⟨(h3 i hi).1, ?_, (h3 i hi).2⟩
 have hlast : ∀ (x : List Int), x.Pairwise (· < ·) → ∀ i ∈ x, i ≤ lastI x := by
  intro x hx i hi
  obtain ⟨k, hk, rfl⟩ := List.getElem_of_mem hi
  have hne : x ≠ [] := fun h => by rw [h] at hk; exact absurd hk (by simp)
  have e : lastI x = x[x.length - 1]'(by omega) := by
   unfold lastI
   rw [List.getLastD_eq_getLast?, List.getLast?_eq_getElem?, List.getElem?_eq_getElem (by omega)]
   rfl
  rw [e]
  by_cases hkl : k = x.length - 1
  ·subst hkl; exact Int.le_refl _
  ·exact Int.le_of_lt (List.pairwise_iff_getElem.1 hx k (x.length - 1) (by omega) (by omega) (by omega))
 exact hlast _ h2 i hi
end
section
open Go.RowKit Go.Shelf
theorem filt_snoc {q : List Int → Bool} {L : List (List Int)} {k : Nat} {x : List Int} (h : L[k]? = some x) : (L.take (k + 1)).filter q = (L.take k).filter q ++ if q x then [x] else [] := by
 rw [List.take_add_one, h, List.filter_append]
 cases hq : q x <;> simp [hq]
theorem fmap_snoc {f : Int → List (List Int)} {L : List Int} {m : Nat} {p : Int} (h : L[m]? = some p) : (L.take (m + 1)).flatMap f = (L.take m).flatMap f ++ f p := by
 rw [List.take_add_one, h, List.flatMap_append]; simp
set_option maxRecDepth 1000000 in
set_option maxHeartbeats 64000000 in
theorem run_good (v1 v2 v3 v4 : Value) (au : Auto) (near : Int) (same : Bool) (srcs : Int) (l : List Ev) (al : Option Addr) (cl : Nat) (w : World) (ha : AutoAt w v1 v2 v3 v4 au) (hr : Rd Ev.cells 5 w (.slice al l.length cl) l) (hcl : l.length ≤ cl) (hfo : au.follow.length ≤ 200000) (hb : runOk srcs au near l = true) :
 Calls Tryz.prog 18 #[.agg #[v1, v2, v3, v4], .int .i64 near, .bool same, .int .i64 srcs, .slice al l.length cl] w fun e w' => ∃ v' r, e = .returned (.tuple #[v', .int .i64 r]) ∧ r = (match runP au near same l with | none => 3 | some _ => 0) ∧ OwnRowsR w w' v' (match runP au near same l with | none => [] | some m => m) ∧ Below w.heap.size w w' := by
 obtain ⟨a3, c3, rfl⟩ : ∃ a c, v3 = .slice a au.last.length c := by obtain ⟨_, a, c, e, _⟩ := ha.last; exact ⟨a, c, e⟩
 unfold runOk at hb
 simp only [Bool.and_eq_true] at hb
 obtain ⟨⟨⟨h1, h2⟩, h3⟩, hE⟩ := hb
 have hs : 1 ≤ srcs ∧ srcs ≤ 4 := by
  simp only [inP, Bool.and_eq_true, decide_eq_true_eq] at h1
  exact h1
 have hc1 := fun W => within_any srcs 1 4 W
 have hc3 := fun W => within_any near 0 200 W
 have hc2 := fun W (hW : Below w.heap.size w W) => isAuto_any v1 v2 (.slice a3 au.last.length c3) v4 au srcs hs W (ha.below hW)
 have hc4 := fun W (hW : Below w.heap.size w W) => areEvents_any l (.slice al l.length cl) srcs hs W (hr.below hW)
 rw [h1] at hc1
 rw [h2] at hc2
 rw [h3] at hc3
 rw [hE] at hc4
 have hsm := events_small hE
 have hsp := isAuto_spec h2
 have HC1 := zH hc1
 have HC2 := zH hc2
 have HC3 := zH hc3
 have HC4 := zH hc4
 have HH := zH (zA ha (zA hr (zA hcl (zA hfo (zA hsm (zA hsp hE))))))
 have h60 := hsm.1
 have hl12 := hsp.2.2.2.2.2
 obtain ⟨mr, hmr⟩ : ∃ mr : Int, mr = (match runP au near same l with | none => 3 | some _ => 0) := ⟨_, rfl⟩
 obtain ⟨ml, hml⟩ : ∃ ml : List (List Int), ml = (match runP au near same l with | none => [] | some m => m) := ⟨_, rfl⟩
 rw [← hmr, ← hml]
 have HM := zH (zA hmr hml)
 clear ha hr hcl hfo h1 h2 h3 hE hc1 hc2 hc3 hc4 hsm hsp hmr hml
 go_enter Tryz.func18, Tryz.ntmps18
 go_wp2_with fail
 refine named_box2 (G := fun W => Calls _ _ _ W _) w _ _ _ _ fun W1 hb1 hz1 hx1 hy1 => ?_
 refine (HC1.out W1).mono ?_
 rintro e w2 ⟨rfl, rfl⟩
 have a0 : W1.cell? ⟨w.heap.size, 0, none⟩ = some v1 := zC hx1 0
 have a1 : W1.cell? ⟨w.heap.size, 1, none⟩ = some v2 := zC hx1 1
 have a2 : W1.cell? ⟨w.heap.size, 2, none⟩ = some (.slice a3 au.last.length c3) := zC hx1 2
 have a3' : W1.cell? ⟨w.heap.size, 3, none⟩ = some v4 := zC hx1 3
 have l0 : W1.cell? ⟨w.heap.size + 1, 0, none⟩ = some (.slice al l.length cl) := zC hy1 0
 have hz1' : w.heap.size + 1 < W1.heap.size := by rw [hz1]; omega
 have H1 := zH (zA hb1 (zA hx1 hy1))
 clear hb1 hz1 hx1 hy1
 go_wp2_with (first | (go_at_call 89; refine (HC2.out _ H1.out.1).mono ?_; rintro e w3 ⟨rfl, hb3⟩; have l1 := zB hb3 l0; have H3 := zH hb3; clear hb3 a0 a1 a2 a3' l0) | (go_at_call 88; refine (HC3.out _).mono ?_; rintro e w4 ⟨rfl, rfl⟩) | (go_at_call 90; refine (HC4.out _ (H1.out.1.trans (H3.out.mono H1.out.1.size))).mono ?_; rintro e w5 ⟨rfl, hb5⟩; have l2 := zB hb5 l1; have H5 := zH (H3.out.trans (hb5.mono H3.out.size)); clear hb5 l1))
 refine named_box2 (G := fun W => Calls _ _ _ W _) w5 _ _ _ _ fun W6 hb6 hz6 hx6 hy6 => ?_
 have hB5 : Below w.heap.size w w5 := H1.out.1.trans (H5.out.mono H1.out.1.size)
 have hB6 : Below w.heap.size w W6 := hB5.trans (hb6.mono hB5.size)
 have hs5 := H5.out.size
 have hs6 := hb6.size
 have hbl6 := (hb6.block (w.heap.size + 1) (by omega)).trans ((H5.out.block (w.heap.size + 1) (by omega)).trans H1.out.2.2)
 have hba6 := (hb6.block w.heap.size (by omega)).trans ((H5.out.block w.heap.size (by omega)).trans H1.out.2.1)
 obtain ⟨ha, hr, hcl, hfo, hsm, hsp, hE⟩ := HH.out
 have hrun := run1_any w5.heap.size (w.heap.size + 1) (w5.heap.size + 1) w.heap.size au.tests.length al cl l v1 v2 (.slice a3 au.last.length c3) v4 au W6 ⟨hbl6, hy6, hba6, RunAt.zero hx6, fun W hW => (fun hBW => ⟨ha.below hBW, hr.below hBW⟩) (hB6.trans (zO hW hB6.size fun j hj => by have h : j = w5.heap.size := hj; have := hB5.size; omega)), hcl, fun e he => ev_at (hsm.2 e he), hsm.1, by omega, by omega, by omega, rfl, hsp.1, hsp.2.1, hsp.2.2.2.1, hsp.2.2.2.2.1, hfo⟩
 refine (enough_any 92 #[.pointer (some ⟨w.heap.size + 1, 0, none⟩), .pointer (some ⟨w5.heap.size + 1, 0, none⟩), .pointer (some ⟨w.heap.size, 0, none⟩)] (enters_of Tryz.func92 (by kernel_rfl) rfl) (fun b w' => RunD w5.heap.size (.slice al l.length cl) l au W6 b w') W6 hrun).mono ?_
 clear hrun l2
 rintro e w8 ⟨b, w7, rfl, hD, hb8⟩
 have hB8 : Below w.heap.size w w8 := (hB6.trans (zO hD.1 hB6.size fun j hj => by have h : j = w5.heap.size := hj; have := hB5.size; omega)).trans (hb8.mono (Nat.le_trans hB6.size hD.1.size))
 cases b with
 | false =>
  have hn := hD.2
  rw [if_neg (by decide)] at hn
  have HX := zH (zA hn hB8)
  clear hn hB8 hD hb8 hbl6 hba6 hB5 hB6 hb6 hx6 hy6 hz6 ha hr hcl hfo hsm hsp hE hs5 hs6
  go_wp2
  go_ret2
  have e : runP au near same l = none := by rw [runP, HX.out.1]; rfl
  have e1 := HM.out.1
  have e2 := HM.out.2
  rw [e] at e1 e2
  exact ⟨_, _, rfl, e1.symm, by rw [e2]; exact OwnRowsR.nil _ _, HX.out.2⟩
 | true =>
  obtain ⟨hF7, hD2⟩ := hD
  rw [if_pos rfl] at hD2
  obtain ⟨vs, A, An, own, hrf, hR7, hK, hA, ho1000⟩ := hD2
  have hR8 := hR7.below hb8
  have hl7 := hF7.size
  have hba8 := (hb8.block w.heap.size (by omega)).trans ((hF7.block w.heap.size (by omega) (fun h => by have h : w.heap.size = w5.heap.size := h; omega)).trans hba6)
  have hbr8 := (hb8.block (w5.heap.size + 1) (by omega)).trans ((hF7.block (w5.heap.size + 1) (by omega) (fun h => by have h : w5.heap.size + 1 = w5.heap.size := h; omega)).trans hy6)
  have hfound := run_found (near := near) (same := same) hE hK (fun p hp => (hsp.2.2.1 p hp).1) hrf
  have k2 : w8.cell? ⟨w.heap.size, 2, none⟩ = some (.slice a3 au.last.length c3) := zC hba8 2
  have hs8 := hb8.size
  have HX := zH (zA hR8 (zA hK (zA hA (zA hfound (zA hba8 (zA hbr8 hB8))))))
  have hlo6 : w.heap.size ≤ W6.heap.size := hB6.size
  clear hR8 hR7 hK hA hfound hba8 hbr8 hB8 hrf hF7 hb8 hbl6 hba6 hB5 hB6 hb6 hx6 hy6 hz6 ha hr hcl hfo hsm hsp hE
  have hq := fun (x : List Int) => askedP l x near same
  clear hq
  go_wp2_with fail
  go_loopw [13, 47] (fun q j W => ∃ (m : Nat) (aO : Option Addr) (cO : Nat) (gs : List Row), q = .slice aO gs.length cO ∧ j = .int .i64 m ∧ m ≤ au.last.length ∧ LL W w.heap.size (.slice aO gs.length cO) gs ∧ nums gs = (au.last.take m).flatMap (fun p => (An p.toNat).filter fun x => askedP l x near same) ∧ (∀ i, some i = (Value.slice aO gs.length cO).ownBlock → w8.heap.size ≤ i) ∧ gs.length ≤ m * 1000 ∧ Below w8.heap.size w8 W) (fun q j _ => au.last.length - (intOf j).toNat)
  case atStart => exact ⟨0, none, 0, [], rfl, rfl, by omega, LL.nil _ _, rfl, fun i hi => by simp [Value.ownBlock] at hi, by simp, Below.refl _ _⟩
  case round =>
   obtain ⟨m, aO, cO, gs, rfl, rfl, hm, hL, hn, hown, hgl, hB⟩ := hrel
   by_cases hlt : m < au.last.length
   rotate_left
   ·obtain rfl : m = au.last.length := by omega
    rw [List.take_length] at hn
    have hu := unique_any (.slice aO gs.length cO) w.heap.size wr gs hL (by omega)
    have HU := zH hu
    have HY := zH (zA hn (zA hown (zA hB hL)))
    clear hn hown hB hL hu
    go_wp2_with (go_at_call 95; refine HU.out.mono ?_; rintro e w9 ⟨v9, gs9, rfl, hn9, hl9, ⟨a9, rfl⟩, _, hf9, _⟩; have H9 := zH (zA hn9 (zA hl9 hf9)); clear hn9 hl9 hf9)
    go_ret2
    have e1 := HM.out.1
    have e2 := HM.out.2
    rw [HX.out.2.2.2.1] at e1 e2
    have hB9 := HX.out.2.2.2.2.2.2.trans (HY.out.2.2.1.mono HX.out.2.2.2.2.2.2.size)
    refine ⟨_, _, rfl, e1.symm, ⟨a9, gs9, rfl, ?_, H9.out.2.1⟩, hB9.trans (zO H9.out.2.2 hB9.size fun i hi => by have h1 := HY.out.2.1 i hi; have h2 := HX.out.2.2.2.2.2.2.size; omega)⟩
    rw [e2, H9.out.1, HY.out.1]
   have hx := List.getElem?_eq_getElem hlt
   generalize au.last[m] = f0 at hx
   have hf0 := HH.out.2.2.2.2.2.1.2.2.1 f0 (List.mem_of_getElem? hx)
   have hn12 := HH.out.2.2.2.2.2.1.1
   obtain ⟨p0, rfl⟩ : ∃ p0 : Nat, f0 = p0 := ⟨f0.toNat, by omega⟩
   have hp0 : p0 < 12 := by omega
   have hBw := HX.out.2.2.2.2.2.2.trans (hB.mono HX.out.2.2.2.2.2.2.size)
   obtain ⟨b3, o3, rfl, _, hc3⟩ := rd_at (HH.out.1.last.below hBw) hx
   have q3 : wr.cell? ⟨b3, o3 + m, none⟩ = some (.int .i64 p0) := by have := hc3 0 _ rfl; simpa using this
   have hRw := HX.out.1.below hB
   have hbrw := (hB.block _ (Array.getElem?_eq_some_iff.1 HX.out.2.2.2.2.2.1).1).trans HX.out.2.2.2.2.2.1
   have r0 : wr.cell? ⟨w5.heap.size + 1, 0, none⟩ = some (.pointer (some ⟨w5.heap.size, 0, none⟩)) := zC hbrw 0
   obtain ⟨aA, cA, eA, _, _⟩ := (hRw.at_ p0 hp0).form
   have hcp := hRw.cells.2.1 p0 hp0
   rw [eA] at hcp
   have hft := fmap_snoc (f := fun p => (An p.toNat).filter fun x => askedP l x near same) hx
   rw [Int.toNat_natCast, ← HX.out.2.2.1 p0 hp0] at hft
   have n1 : (m : Int) < (au.last.length : Int) := by omega
   have n2 : (p0 : Int) < 12 := by omega
   have hA1000 : (A p0).length ≤ 1000 := by
    have h1 := kept_le (A := An) 12 p0 hp0
    rw [kept_count HX.out.2.1.kept, ← HX.out.2.2.1 p0 hp0, nums_len] at h1
    omega
   have HY := zH (zA hL (zA hn (zA hown (zA hgl (zA hB (zA hft eA))))))
   have HCP := zH hcp
   clear hx hf0 hBw hc3 hRw hbrw hL hn hown hgl hB hft eA
   obtain ⟨wr1, hwr1⟩ : ∃ w9, w9 = wr := ⟨_, rfl⟩
   subst hwr1
   go_wp2_with fail
   clear r0 q3
   go_loopw [13, 58] (fun q j W => ∃ (k : Nat) (aO : Option Addr) (cO : Nat) (gs : List Row), q = .slice aO gs.length cO ∧ j = .int .i64 k ∧ k ≤ (A p0).length ∧ LL W w.heap.size (.slice aO gs.length cO) gs ∧ nums gs = ((au.last.take m).flatMap fun p => (An p.toNat).filter fun x => askedP l x near same) ++ ((nums (A p0)).take k).filter (fun x => askedP l x near same) ∧ (∀ i, some i = (Value.slice aO gs.length cO).ownBlock → w8.heap.size ≤ i) ∧ gs.length ≤ m * 1000 + k ∧ Below w8.heap.size w8 W) (fun q j _ => (A p0).length - (intOf j).toNat)
   case atStart => exact ⟨0, aO, cO, gs, rfl, rfl, by omega, HY.out.1, by rw [HY.out.2.1]; simp, HY.out.2.2.1, by have := HY.out.2.2.2.1; omega, HY.out.2.2.2.2.1⟩
   case round =>
    obtain ⟨k, aI, cI, gi, rfl, rfl, hk, hL, hn, hown, hgl, hB⟩ := hrel
    by_cases hlt2 : k < (A p0).length
    rotate_left
    ·obtain rfl : k = (A p0).length := by omega
     have HZ := zH (zA hL (zA hn (zA hown (zA hgl hB))))
     clear hL hn hown hgl hB
     go_wp2
     go_roundw
     case rel =>
      obtain ⟨hL, hn, hown, hgl, hB⟩ := HZ.out
      refine ⟨m + 1, aI, cI, gi, rfl, by go_num, by omega, hL, ?_, hown, by omega, hB⟩
      have e : List.take (A p0).length (nums (A p0)) = nums (A p0) := List.take_of_length_le (by rw [nums_len]; exact Nat.le_refl _)
      rw [HY.out.2.2.2.2.2.1, hn, e]
     case measure => simp [intOf]; omega
    have hx := List.getElem?_eq_getElem hlt2
    generalize (A p0)[k] = row at hx
    have hBw := HX.out.2.2.2.2.2.2.trans (hB.mono HX.out.2.2.2.2.2.2.size)
    have hRw := HX.out.1.below hB
    have hAr := hRw.at_ p0 hp0
    rw [HY.out.2.2.2.2.2.2] at hAr
    have hmem : row.2 ∈ An p0 := by rw [← HX.out.2.2.1 p0 hp0]; exact List.mem_map.2 ⟨row, List.mem_of_getElem? hx, rfl⟩
    have hinc := HX.out.2.1.inc _ ((HX.out.2.1.kept.mem p0 row.2).1 hmem)
    have hft2 := filt_snoc (q := fun x => askedP l x near same) (nums_get hx)
    obtain ⟨rv, x⟩ := row
    obtain ⟨bA, oA, bx, ox, cx, rfl, ex, q1, ry⟩ := hAr.cell hx
    dsimp only at ex q1 hmem hinc hft2
    subst ex
    obtain ⟨r, hrr⟩ : ∃ r, r = askedP l x near same := ⟨_, rfl⟩
    have hask := asked_any l al cl (.slice (some ⟨bx, ox, none⟩) x.length cx) x near same wr (HH.out.2.1.below hBw) (fun e he => ev_at (HH.out.2.2.2.2.1.2 e he)) ry.2.1 hinc
    rw [← hrr] at hask hft2
    have HAS := zH hask
    have hbrw := (hB.block _ (Array.getElem?_eq_some_iff.1 HX.out.2.2.2.2.2.1).1).trans HX.out.2.2.2.2.2.1
    have r0 : wr.cell? ⟨w5.heap.size + 1, 0, none⟩ = some (.pointer (some ⟨w5.heap.size, 0, none⟩)) := zC hbrw 0
    have f0 := hRw.cells.1
    have n3 : (k : Int) < ((A p0).length : Int) := by omega
    have hry := ry.mono (lo' := w.heap.size) hlo6
    have HZ := zH (zA hL (zA hn (zA hown (zA hgl (zA hB (zA hft2 (zA hrr hry)))))))
    have hgl2 := hgl
    have hm12 : m < 12 := by omega
    clear hx hBw hRw hAr hmem hinc hft2 hask hbrw hL hn hown hgl hB hrr ry hry
    cases r with
    | false =>
     go_wp2_with (go_at_call 94; refine HAS.out.mono ?_; rintro e w9 ⟨rfl, hb9⟩; have H9 := zH hb9; clear hb9 q1 r0 f0)
     go_roundw
     case rel =>
      obtain ⟨hL, hn, hown, hgl, hB, hft2, hrr, hry⟩ := HZ.out
      refine ⟨k + 1, aI, cI, gi, rfl, by go_num, by omega, hL.below H9.out, ?_, hown, by omega, hB.trans (H9.out.mono hB.size)⟩
      rw [hn, hft2, if_neg (by decide), List.append_nil]
     case measure => simp [intOf]; omega
    | true =>
     go_wp2_with (first | (go_at_call 94; refine HAS.out.mono ?_; rintro e w9 ⟨rfl, hb9⟩; have hL9 := fun o => (HZ.out.1.below hb9).below ((Below.refl w9.heap.size w9).alloc (Nat.le_refl _) o); have H9 := zH (zA hb9 hL9); clear hb9 hL9 q1 r0 f0) | (at_builtin; (refine wpList_append_win _ (by rfl) _ _ _ (by rfl) 31 1 24 _ Tryz.underlying44 info_row rfl (by decide) _ _ gi.length _ (by rfl) (winC_block (H9.out.2 _).1) _ _ _ [.slice (some ⟨bx, ox, none⟩) x.length cx] (by rfl) (by rfl) (news1 w9 _ _) (by simp [Value.oneCell']) (by decide) (by unfold maxLen; omega) (by omega) ?_); intro u w10 hwin10 hfr10 hsz10; obtain ⟨a10, c10, rfl, hc10, hm10⟩ := zS hwin10; have H10 := zH (zA hwin10 hfr10); clear hwin10 hfr10 hsz10))
     go_roundw
     case rel =>
      obtain ⟨hL, hn, hown, hgl, hB, hft2, hrr, hry⟩ := HZ.out
      obtain ⟨hb9, hL9⟩ := H9.out
      have hb10 := (Below.refl w9.heap.size w9).alloc (Nat.le_refl _) (.cells #[.slice (some ⟨bx, ox, none⟩) x.length cx] 31)
      have hB10 := (hB.trans (hb9.mono hB.size)).trans (hb10.mono (Nat.le_trans hB.size hb9.size))
      have hlw : w.heap.size ≤ (w9.alloc (.cells #[.slice (some ⟨bx, ox, none⟩) x.length cx] 31)).heap.size := Nat.le_trans HX.out.2.2.2.2.2.2.size hB10.size
      have hp := LL.push (ps := [(.slice (some ⟨bx, ox, none⟩) x.length cx, x)]) (hL9 (.cells #[.slice (some ⟨bx, ox, none⟩) x.length cx] 31)) (by intro p hp; rw [List.mem_singleton] at hp; subst hp; exact (hry.below hb9).below hb10) hlw (m := 1) rfl (zN H10.out.1 fun j hj => hj.imp (fun h => ⟨h.1.2.1, h.2⟩) id) H10.out.2
      refine ⟨k + 1, a10, c10, gi ++ [(.slice (some ⟨bx, ox, none⟩) x.length cx, x)], by simp, by go_num, by omega, by simpa using hp.1, ?_, fun i hi => ?_, by simp; omega, hB10.trans (zO H10.out.2 hB10.size fun i hi => hown i hi)⟩
      ·rw [hft2, if_pos (by trivial), ← List.append_assoc, ← hn]
       simp [nums]
      ·have h1 := winC_ob H10.out.1 i (by simpa [Value.ownBlock] using hi)
       rcases h1.1 with h | h
       ·exact hown i h.1.1
       ·have := hB10.size; omega
     case measure => simp [intOf]; omega
end
section
open Go.RowKit Go.Shelf
theorem run_out (v1 v2 v3 v4 : Value) (au : Auto) (near : Int) (same : Bool) (srcs : Int) (l : List Ev) (al : Option Addr) (cl : Nat) (w : World) (ha : AutoAt w v1 v2 v3 v4 au) (hr : Rd Ev.cells 5 w (.slice al l.length cl) l) (hcl : l.length ≤ cl) (hfo : au.follow.length ≤ 200000) :
 Calls Tryz.prog 18 #[.agg #[v1, v2, v3, v4], .int .i64 near, .bool same, .int .i64 srcs, .slice al l.length cl] w fun e w' => ∃ v', e = .returned (.tuple #[v', .int .i64 (runRes srcs au near same l).2]) ∧ OwnRowsR w w' v' (runRes srcs au near same l).1 ∧ Below w.heap.size w w' := by
 cases hb : runOk srcs au near l with
 | false =>
  refine (run_bad v1 v2 v3 v4 au near same srcs l al cl w ha hr hb).mono ?_
  rintro e w' ⟨rfl, h⟩
  unfold runRes
  rw [hb, if_neg (by decide)]
  exact ⟨_, rfl, OwnRowsR.nil _ _, h⟩
 | true =>
  refine (run_good v1 v2 v3 v4 au near same srcs l al cl w ha hr hcl hfo hb).mono ?_
  rintro e w' ⟨v', r, rfl, hr', ho, h⟩
  unfold runRes
  rw [hb, if_pos rfl]
  cases hp : runP au near same l with
  | none =>
   rw [hp] at hr' ho
   rw [hr']
   exact ⟨v', rfl, ho, h⟩
  | some m =>
   rw [hp] at hr' ho
   rw [hr']
   exact ⟨v', rfl, ho, h⟩
end
section
open Go.RowKit Go.Shelf
deriving instance DecidableEq for Auto
theorem neqTestR (s0 lo hi s1 lo1 hi1 : Int) (w : World) : (binOp .neq 24 (.agg #[.int .i64 s0, .int .i64 lo, .int .i64 hi]) (.agg #[.int .i64 s1, .int .i64 lo1, .int .i64 hi1])).run Tryz.prog w = .ok (.bool (!decide ((⟨s0, lo, hi⟩ : Test) = ⟨s1, lo1, hi1⟩))) w := by
 have u3 := Tryz.underlying3
 have a3 := Tryz.isAgg3
 have z3 := Tryz.sizeOf3
 have hS : Tryz.prog.underlying 24 = some (.struct (Tryz.prog.fieldsOf 24)) := by kernel_rfl
 have hp : Tryz.prog.stoodInHeld 24 = false := by kernel_rfl
 rw [run_neq_struct, show (10000 : Nat) = 9999 + 1 from rfl, run_equalIn_agg w 9999 24 _ _ hS hp]
 simp only [Program.fieldsOf, Tryz.underlying24]
 go_simp
 by_cases h5 : s0 = s1 <;> by_cases h6 : lo = lo1 <;> by_cases h7 : hi = hi1 <;> simp [h5, h6, h7]
theorem take_snoc_eq {α : Type} {l m : List α} {n : Nat} {x : α} (h : l.take n = m.take n) (hx : l[n]? = some x) (hy : m[n]? = some x) : l.take (n + 1) = m.take (n + 1) := by
 rw [List.take_add_one, List.take_add_one, h, hx, hy]
set_option maxRecDepth 100000 in
set_option maxHeartbeats 32000000 in
theorem sameAuto_any (v1 v2 v3 v4 u1 u2 u3 u4 : Value) (A B : Auto) (w : World) (ha : AutoAt w v1 v2 v3 v4 A) (hb : AutoAt w u1 u2 u3 u4 B) (k1 : smallL A.first) (k2 : smallL B.first) (k3 : smallL A.last) (k4 : smallL B.last) :
 Calls Tryz.prog 16 #[.agg #[v1, v2, v3, v4], .agg #[u1, u2, u3, u4]] w fun e w' => e = .returned (.bool (decide (A = B))) ∧ Below w.heap.size w w' := by
 obtain ⟨ts, fs, ls, es⟩ := A
 obtain ⟨ts', fs', ls', es'⟩ := B
 obtain ⟨a1, c1, rfl⟩ : ∃ a c, v1 = .slice a ts.length c := by obtain ⟨_, a, c, rfl, _⟩ := ha.tests; exact ⟨a, c, rfl⟩
 obtain ⟨a2, c2, rfl⟩ : ∃ a c, v2 = .slice a fs.length c := by obtain ⟨_, a, c, rfl, _⟩ := ha.first; exact ⟨a, c, rfl⟩
 obtain ⟨a3, c3, rfl⟩ : ∃ a c, v3 = .slice a ls.length c := by obtain ⟨_, a, c, rfl, _⟩ := ha.last; exact ⟨a, c, rfl⟩
 obtain ⟨a4, c4, rfl⟩ : ∃ a c, v4 = .slice a es.length c := by obtain ⟨_, a, c, rfl, _⟩ := ha.follow; exact ⟨a, c, rfl⟩
 obtain ⟨d1, f1, rfl⟩ : ∃ a c, u1 = .slice a ts'.length c := by obtain ⟨_, a, c, rfl, _⟩ := hb.tests; exact ⟨a, c, rfl⟩
 obtain ⟨d2, f2, rfl⟩ : ∃ a c, u2 = .slice a fs'.length c := by obtain ⟨_, a, c, rfl, _⟩ := hb.first; exact ⟨a, c, rfl⟩
 obtain ⟨d3, f3, rfl⟩ : ∃ a c, u3 = .slice a ls'.length c := by obtain ⟨_, a, c, rfl, _⟩ := hb.last; exact ⟨a, c, rfl⟩
 obtain ⟨d4, f4, rfl⟩ : ∃ a c, u4 = .slice a es'.length c := by obtain ⟨_, a, c, rfl, _⟩ := hb.follow; exact ⟨a, c, rfl⟩
 have hl1 := ha.tests.1
 have hl4 := ha.follow.1
 have HA := zH ha
 have HB := zH hb
 have HK := zH (zA k1 (zA k2 (zA k3 k4)))
 clear ha hb k1 k2 k3 k4
 obtain ⟨r, hr⟩ : ∃ r, r = decide ((⟨ts, fs, ls, es⟩ : Auto) = ⟨ts', fs', ls', es'⟩) := ⟨_, rfl⟩
 rw [← hr]
 have hfalse : ¬ (ts = ts' ∧ fs = fs' ∧ ls = ls' ∧ es = es') → r = false := fun h => by rw [hr]; exact decide_eq_false fun e => h (by injection e with e1 e2 e3 e4; exact ⟨e1, e2, e3, e4⟩)
 have htrue : ts = ts' → fs = fs' → ls = ls' → es = es' → r = true := fun e1 e2 e3 e4 => by rw [hr, e1, e2, e3, e4]; exact decide_eq_true rfl
 have HR := zH (zA hfalse htrue)
 clear hr hfalse htrue
 have HW := zH (((Below.refl w.heap.size w).alloc (Nat.le_refl _) (.cells #[.slice a1 ts.length c1, .slice a2 fs.length c2, .slice a3 ls.length c3, .slice a4 es.length c4] 34)).alloc (by simp) (.cells #[.slice d1 ts'.length f1, .slice d2 fs'.length f2, .slice d3 ls'.length f3, .slice d4 es'.length f4] 34))
 by_cases hT : ts.length = ts'.length
 rotate_left
 ·have hTi : ((ts.length : Int) != (ts'.length : Int)) = true := by simp; omega
  have hr := HR.out.1 fun h => hT (by rw [h.1])
  subst hr
  clear hT
  go_enter Tryz.func16, Tryz.ntmps16
  go_wp2_with fail
  go_ret
  exact ⟨rfl, HW.out⟩
 by_cases hE : es.length = es'.length
 rotate_left
 ·have hTi : ((ts.length : Int) != (ts'.length : Int)) = false := by simp; omega
  have hEi : ((es.length : Int) != (es'.length : Int)) = true := by simp; omega
  have hr := HR.out.1 fun h => hE (by rw [h.2.2.2])
  subst hr
  clear hE hT
  go_enter Tryz.func16, Tryz.ntmps16
  go_wp2_with fail
  go_ret
  exact ⟨rfl, HW.out⟩
 have hTi : ((ts.length : Int) != (ts'.length : Int)) = false := by simp; omega
 have hEi : ((es.length : Int) != (es'.length : Int)) = false := by simp; omega
 clear HW
 have HT := zH (zA hT hE)
 clear hT hE
 go_enter Tryz.func16, Tryz.ntmps16
 go_wp2_with fail
 refine named_box2 (G := fun W => Calls _ _ _ W _) w _ _ _ _ fun W1 hb1 hz1 hx1 hy1 => ?_
 have hcs : ∀ W, Below W1.heap.size W1 W → (W.cell? ⟨w.heap.size, 0, none⟩ = some (.slice a1 ts.length c1) ∧ W.cell? ⟨w.heap.size, 1, none⟩ = some (.slice a2 fs.length c2) ∧ W.cell? ⟨w.heap.size, 2, none⟩ = some (.slice a3 ls.length c3) ∧ W.cell? ⟨w.heap.size, 3, none⟩ = some (.slice a4 es.length c4)) ∧ (W.cell? ⟨w.heap.size + 1, 0, none⟩ = some (.slice d1 ts'.length f1) ∧ W.cell? ⟨w.heap.size + 1, 1, none⟩ = some (.slice d2 fs'.length f2) ∧ W.cell? ⟨w.heap.size + 1, 2, none⟩ = some (.slice d3 ls'.length f3) ∧ W.cell? ⟨w.heap.size + 1, 3, none⟩ = some (.slice d4 es'.length f4)) := fun W hW => ⟨⟨zB hW (zC hx1 0), zB hW (zC hx1 1), zB hW (zC hx1 2), zB hW (zC hx1 3)⟩, zB hW (zC hy1 0), zB hW (zC hy1 1), zB hW (zC hy1 2), zB hW (zC hy1 3)⟩
 have HC := zH (zA hb1 hcs)
 have hz1' : W1.heap.size = w.heap.size + 2 := hz1
 clear hcs hx1 hy1 hz1
 refine (refOrder_any _ _ fs fs' W1 (HA.out.first.below hb1) (HB.out.first.below hb1) HK.out.1 HK.out.2.1).mono ?_
 rintro e w2 ⟨rfl, hb2⟩
 obtain ⟨⟨p0, p1, p2, p3⟩, q0, q1, q2, q3⟩ := HC.out.2 w2 hb2
 have H2 := zH (zA hb2 (HC.out.1.trans (hb2.mono HC.out.1.size)))
 have HO := zH (ordL_eq fs fs')
 generalize ordL fs fs' = o at *
 clear hb1 hb2
 by_cases ho : o = 0
 rotate_left
 ·have hoi : (o != 0) = true := by simpa using ho
  have hr := HR.out.1 fun h => ho (HO.out.2 h.2.1)
  subst hr
  go_wp2_with fail
  go_ret
  exact ⟨rfl, H2.out.2⟩
 subst ho
 go_wp2_with fail
 refine (refOrder_any _ _ ls ls' w2 (HA.out.last.below H2.out.2) (HB.out.last.below H2.out.2) HK.out.2.2.1 HK.out.2.2.2).mono ?_
 rintro e w3 ⟨rfl, hb3⟩
 have hb3 := H2.out.1.trans (hb3.mono H2.out.1.size)
 clear p0 p1 p2 p3 q0 q1 q2 q3
 obtain ⟨⟨p0, p1, p2, p3⟩, q0, q1, q2, q3⟩ := HC.out.2 w3 hb3
 have H3 := zH (zA hb3 (HC.out.1.trans (hb3.mono HC.out.1.size)))
 have HP := zH (ordL_eq ls ls')
 generalize ordL ls ls' = o at *
 clear hb3
 by_cases ho : o = 0
 rotate_left
 ·have hoi : (o != 0) = true := by simpa using ho
  have hr := HR.out.1 fun h => ho (HP.out.2 h.2.2.1)
  subst hr
  go_wp2_with fail
  go_ret
  exact ⟨rfl, H3.out.2⟩
 subst ho
 have HFL := zH (zA (HO.out.1 (by first | trivial | rfl)) (HP.out.1 (by first | trivial | rfl)))
 clear HO HP HK
 go_wp2
 go_loopw [5] (fun i W => ∃ (n : Nat), i = .int .i64 n ∧ n ≤ ts.length ∧ ts.take n = ts'.take n ∧ Below W1.heap.size W1 W) (fun i _ => ts.length - (intOf i).toNat)
 case atStart => exact ⟨0, rfl, by omega, rfl, H3.out.1⟩
 case round =>
  obtain ⟨n, rfl, hn1, htk, hB⟩ := hrel
  clear p0 p1 p2 p3 q0 q1 q2 q3
  obtain ⟨⟨p0, p1, p2, p3⟩, q0, q1, q2, q3⟩ := HC.out.2 wr hB
  have hBw := HC.out.1.trans (hB.mono HC.out.1.size)
  by_cases hlt : n < ts.length
  ·have hx := List.getElem?_eq_getElem hlt
   have hlt' : n < ts'.length := by have := HT.out.1; omega
   have hy := List.getElem?_eq_getElem hlt'
   generalize ts[n] = x at hx
   generalize ts'[n] = y at hy
   obtain ⟨xs, xl, xh⟩ := x
   obtain ⟨ys, yl, yh⟩ := y
   obtain ⟨b, off, rfl, _, hc⟩ := rd_at (HA.out.tests.below hBw) hx
   obtain ⟨b', off', rfl, _, hc'⟩ := rd_at (HB.out.tests.below hBw) hy
   have z0 : wr.cell? ⟨b, off + n * 3, none⟩ = some (.int .i64 xs) := hc 0 _ rfl
   have z1 := hc 1 _ rfl
   have z2 := hc 2 _ rfl
   have y0 : wr.cell? ⟨b', off' + n * 3, none⟩ = some (.int .i64 ys) := hc' 0 _ rfl
   have y1 := hc' 1 _ rfl
   have y2 := hc' 2 _ rfl
   have n1 : (n : Int) < (ts.length : Int) := by omega
   have n2 : (n : Int) < (ts'.length : Int) := by omega
   obtain ⟨g, hg⟩ : ∃ g, g = decide ((⟨xs, xl, xh⟩ : Test) = ⟨ys, yl, yh⟩) := ⟨_, rfl⟩
   have hnq := fun W => neqTestR xs xl xh ys yl yh W
   simp only [← hg] at hnq
   have HX := zH (zA htk (zA hB (zA hBw (zA hx (zA hy hg)))))
   clear htk hB hBw hx hy hc hc' hg
   go_wp2_with fail
   refine zR 11 (S := fun W => W.cell? ⟨w.heap.size, 0, none⟩ = some (.slice (some ⟨b, off, none⟩) ts.length c1) ∧ W.cell? ⟨w.heap.size + 1, 0, none⟩ = some (.slice (some ⟨b', off', none⟩) ts'.length f1) ∧ W.cell? ⟨b, off + n * 3, none⟩ = some (.int .i64 xs) ∧ W.cell? ⟨b, off + n * 3 + 1, none⟩ = some (.int .i64 xl) ∧ W.cell? ⟨b, off + n * 3 + 2, none⟩ = some (.int .i64 xh) ∧ W.cell? ⟨b', off' + n * 3, none⟩ = some (.int .i64 ys) ∧ W.cell? ⟨b', off' + n * 3 + 1, none⟩ = some (.int .i64 yl) ∧ W.cell? ⟨b', off' + n * 3 + 2, none⟩ = some (.int .i64 yh)) (by kernel_rfl) (by kernel_rfl) rfl ⟨p0, q0, z0, z1, z2, y0, y1, y2⟩ (fun hHeld => ?_)
   try simp only [List.reduceReplicate]
   repeat refine takeA [] (h := ?_)
   refine wpAnyH_done (by kernel_rfl) ?_ _
   cases g with
   | false =>
    have hne : ¬ ts = ts' := fun h => by
     have h1 := HX.out.2.2.2.1
     rw [h, HX.out.2.2.2.2.1] at h1
     injection h1 with h1
     exact of_decide_eq_false HX.out.2.2.2.2.2.symm h1.symm
    have hr := HR.out.1 fun h => hne h.1
    subst hr
    go_wp2
    go_ret
    exact ⟨rfl, HX.out.2.2.1.trans ((Below.refl wr.heap.size wr).drew.mono HX.out.2.2.1.size)⟩
   | true =>
    have hyx := HX.out.2.2.2.2.1
    rw [← of_decide_eq_true HX.out.2.2.2.2.2.symm] at hyx
    have HT1 := zH (take_snoc_eq HX.out.1 HX.out.2.2.2.1 hyx)
    clear hyx
    go_wp2
    go_roundw
    case rel => exact ⟨n + 1, by go_num, by omega, HT1.out, HX.out.2.1.trans ((Below.refl wr.heap.size wr).drew.mono HX.out.2.1.size)⟩
    case measure => simp [intOf]; omega
  ·obtain rfl : n = ts.length := by omega
   have hts : ts = ts' := by
    rw [List.take_length, HT.out.1, List.take_length] at htk
    exact htk
   have HTS := zH (zA hts (zA hB hBw))
   clear htk hB hBw hts
   go_wp2
   go_loopw [6] (fun i W => ∃ (n : Nat), i = .int .i64 n ∧ n ≤ es.length ∧ es.take n = es'.take n ∧ Below W1.heap.size W1 W) (fun i _ => es.length - (intOf i).toNat)
   case atStart => exact ⟨0, rfl, by omega, rfl, HTS.out.2.1⟩
   case round =>
    obtain ⟨n, rfl, hn2, htk, hB⟩ := hrel
    clear p0 p1 p2 p3 q0 q1 q2 q3
    obtain ⟨⟨p0, p1, p2, p3⟩, q0, q1, q2, q3⟩ := HC.out.2 wr hB
    have hBw := HC.out.1.trans (hB.mono HC.out.1.size)
    by_cases hlt : n < es.length
    ·have hx := List.getElem?_eq_getElem hlt
     have hlt' : n < es'.length := by have := HT.out.2; omega
     have hy := List.getElem?_eq_getElem hlt'
     generalize es[n] = x at hx
     generalize es'[n] = y at hy
     obtain ⟨xf, xt, xn, xl, ⟨xs, xlo, xhi⟩⟩ := x
     obtain ⟨yf, yt, yn, yl, ⟨ys, ylo, yhi⟩⟩ := y
     obtain ⟨b, off, rfl, _, hc⟩ := rd_at (HA.out.follow.below hBw) hx
     obtain ⟨b', off', rfl, _, hc'⟩ := rd_at (HB.out.follow.below hBw) hy
     have z0 : wr.cell? ⟨b, off + n * 7, none⟩ = some (.int .i64 xf) := hc 0 _ rfl
     have y0 : wr.cell? ⟨b', off' + n * 7, none⟩ = some (.int .i64 yf) := hc' 0 _ rfl
     have n1 : (n : Int) < (es.length : Int) := by omega
     have n2 : (n : Int) < (es'.length : Int) := by omega
     obtain ⟨g, hg⟩ : ∃ g, g = decide ((⟨xf, xt, xn, xl, ⟨xs, xlo, xhi⟩⟩ : Edge) = ⟨yf, yt, yn, yl, ⟨ys, ylo, yhi⟩⟩) := ⟨_, rfl⟩
     have hnq := fun W => neqEdge0 xf xt xn xs xlo xhi yf yt yn ys ylo yhi xl yl W
     simp only [← hg] at hnq
     have hS : wr.cell? ⟨w.heap.size, 3, none⟩ = some (.slice (some ⟨b, off, none⟩) es.length c4) ∧ wr.cell? ⟨w.heap.size + 1, 3, none⟩ = some (.slice (some ⟨b', off', none⟩) es'.length f4) ∧ wr.cell? ⟨b, off + n * 7, none⟩ = some (.int .i64 xf) ∧ wr.cell? ⟨b, off + n * 7 + 1, none⟩ = some (.int .i64 xt) ∧ wr.cell? ⟨b, off + n * 7 + 2, none⟩ = some (.int .i64 xn) ∧ wr.cell? ⟨b, off + n * 7 + 3, none⟩ = some (.bool xl) ∧ wr.cell? ⟨b, off + n * 7 + 4, none⟩ = some (.int .i64 xs) ∧ wr.cell? ⟨b, off + n * 7 + 5, none⟩ = some (.int .i64 xlo) ∧ wr.cell? ⟨b, off + n * 7 + 6, none⟩ = some (.int .i64 xhi) ∧ wr.cell? ⟨b', off' + n * 7, none⟩ = some (.int .i64 yf) ∧ wr.cell? ⟨b', off' + n * 7 + 1, none⟩ = some (.int .i64 yt) ∧ wr.cell? ⟨b', off' + n * 7 + 2, none⟩ = some (.int .i64 yn) ∧ wr.cell? ⟨b', off' + n * 7 + 3, none⟩ = some (.bool yl) ∧ wr.cell? ⟨b', off' + n * 7 + 4, none⟩ = some (.int .i64 ys) ∧ wr.cell? ⟨b', off' + n * 7 + 5, none⟩ = some (.int .i64 ylo) ∧ wr.cell? ⟨b', off' + n * 7 + 6, none⟩ = some (.int .i64 yhi) := ⟨p3, q3, z0, hc 1 _ rfl, hc 2 _ rfl, hc 3 _ rfl, hc 4 _ rfl, hc 5 _ rfl, hc 6 _ rfl, y0, hc' 1 _ rfl, hc' 2 _ rfl, hc' 3 _ rfl, hc' 4 _ rfl, hc' 5 _ rfl, hc' 6 _ rfl⟩
     have HX := zH (zA htk (zA hB (zA hBw (zA hx (zA hy hg)))))
     have HSS := zH hS
     clear htk hB hBw hx hy hc hc' hg hS z0 y0
     go_wp2_with fail
     refine zR 11 (S := fun W => W.cell? ⟨w.heap.size, 3, none⟩ = some (.slice (some ⟨b, off, none⟩) es.length c4) ∧ W.cell? ⟨w.heap.size + 1, 3, none⟩ = some (.slice (some ⟨b', off', none⟩) es'.length f4) ∧ W.cell? ⟨b, off + n * 7, none⟩ = some (.int .i64 xf) ∧ W.cell? ⟨b, off + n * 7 + 1, none⟩ = some (.int .i64 xt) ∧ W.cell? ⟨b, off + n * 7 + 2, none⟩ = some (.int .i64 xn) ∧ W.cell? ⟨b, off + n * 7 + 3, none⟩ = some (.bool xl) ∧ W.cell? ⟨b, off + n * 7 + 4, none⟩ = some (.int .i64 xs) ∧ W.cell? ⟨b, off + n * 7 + 5, none⟩ = some (.int .i64 xlo) ∧ W.cell? ⟨b, off + n * 7 + 6, none⟩ = some (.int .i64 xhi) ∧ W.cell? ⟨b', off' + n * 7, none⟩ = some (.int .i64 yf) ∧ W.cell? ⟨b', off' + n * 7 + 1, none⟩ = some (.int .i64 yt) ∧ W.cell? ⟨b', off' + n * 7 + 2, none⟩ = some (.int .i64 yn) ∧ W.cell? ⟨b', off' + n * 7 + 3, none⟩ = some (.bool yl) ∧ W.cell? ⟨b', off' + n * 7 + 4, none⟩ = some (.int .i64 ys) ∧ W.cell? ⟨b', off' + n * 7 + 5, none⟩ = some (.int .i64 ylo) ∧ W.cell? ⟨b', off' + n * 7 + 6, none⟩ = some (.int .i64 yhi)) (by kernel_rfl) (by kernel_rfl) rfl HSS.out (fun hHeld => ?_)
     try simp only [List.reduceReplicate]
     repeat refine takeA [] (h := ?_)
     refine wpAnyH_done (by kernel_rfl) ?_ _
     cases g with
     | false =>
      have hne : ¬ es = es' := fun h => by
       have h1 := HX.out.2.2.2.1
       rw [h, HX.out.2.2.2.2.1] at h1
       injection h1 with h1
       exact of_decide_eq_false HX.out.2.2.2.2.2.symm h1.symm
      have hr := HR.out.1 fun h => hne h.2.2.2
      subst hr
      go_wp2
      go_ret
      exact ⟨rfl, HX.out.2.2.1.trans ((Below.refl wr.heap.size wr).drew.mono HX.out.2.2.1.size)⟩
     | true =>
      have hyx := HX.out.2.2.2.2.1
      rw [← of_decide_eq_true HX.out.2.2.2.2.2.symm] at hyx
      have HT1 := zH (take_snoc_eq HX.out.1 HX.out.2.2.2.1 hyx)
      clear hyx
      go_wp2
      go_roundw
      case rel => exact ⟨n + 1, by go_num, by omega, HT1.out, HX.out.2.1.trans ((Below.refl wr.heap.size wr).drew.mono HX.out.2.1.size)⟩
      case measure => simp [intOf]; omega
    ·obtain rfl : n = es.length := by omega
     have hes : es = es' := by
      rw [List.take_length, HT.out.2, List.take_length] at htk
      exact htk
     have hr := HR.out.2 HTS.out.1 HFL.out.1 HFL.out.2 hes
     subst hr
     have HX := zH hBw
     clear htk hB hBw hes
     go_wp2
     go_ret
     exact ⟨rfl, HX.out⟩
end
section
open Go.RowKit Go.Shelf
theorem lit_ab (w : World) {G : World → Prop} (h : ∀ W, Below w.heap.size w W → RdLL W (.slice (some ⟨w.heap.size + 1 + 1 + 1, 0, none⟩) 3 3) [[0, 1], [0, 3], [2, 3]] → G W) : G ((((w.alloc (.cells #[.int .i64 0, .int .i64 1] 3)).alloc (.cells #[.int .i64 0, .int .i64 3] 3)).alloc (.cells #[.int .i64 2, .int .i64 3] 3)).alloc (.cells #[.slice (some ⟨w.heap.size, 0, none⟩) 2 2, .slice (some ⟨w.heap.size + 1, 0, none⟩) 2 2, .slice (some ⟨w.heap.size + 1 + 1, 0, none⟩) 2 2] 31)) := by
 have e0 := heap_alloc_new w (.cells #[.int .i64 0, .int .i64 1] 3)
 have e1 := heap_alloc_new (w.alloc (.cells #[.int .i64 0, .int .i64 1] 3)) (.cells #[.int .i64 0, .int .i64 3] 3)
 have e2 := heap_alloc_new ((w.alloc (.cells #[.int .i64 0, .int .i64 1] 3)).alloc (.cells #[.int .i64 0, .int .i64 3] 3)) (.cells #[.int .i64 2, .int .i64 3] 3)
 simp only [World.size_alloc] at e0 e1 e2
 refine h _ (below4 w _ _ _ _) (rdLL_box 31 3 _ 3 _ [(w.heap.size, [0, 1]), (w.heap.size + 1, [0, 3]), (w.heap.size + 1 + 1, [2, 3])] (heap_last4 w _ _ _ _) rfl rfl (by decide) ?_)
 intro p hp
 simp only [List.mem_cons, List.mem_nil_iff, or_false] at hp
 rcases hp with rfl | rfl | rfl
 ·exact ⟨by simp, (alloc_old (alloc_old (alloc_old e0)))⟩
 ·exact ⟨by simp, (alloc_old (alloc_old e1))⟩
 ·exact ⟨by simp, (alloc_old e2)⟩
theorem lit_two (w : World) {G : World → Prop} (h : ∀ W, Below w.heap.size w W → RdLL W (.slice (some ⟨w.heap.size + 1 + 1, 0, none⟩) 2 2) [[0, 1], [2, 3]] → G W) : G (((w.alloc (.cells #[.int .i64 0, .int .i64 1] 3)).alloc (.cells #[.int .i64 2, .int .i64 3] 3)).alloc (.cells #[.slice (some ⟨w.heap.size, 0, none⟩) 2 2, .slice (some ⟨w.heap.size + 1, 0, none⟩) 2 2] 31)) := by
 have e0 := heap_alloc_new w (.cells #[.int .i64 0, .int .i64 1] 3)
 have e1 := heap_alloc_new (w.alloc (.cells #[.int .i64 0, .int .i64 1] 3)) (.cells #[.int .i64 2, .int .i64 3] 3)
 simp only [World.size_alloc] at e0 e1
 refine h _ (below3 w _ _ _) (rdLL_box 31 3 _ 2 _ [(w.heap.size, [0, 1]), (w.heap.size + 1, [2, 3])] (heap_last3 w _ _ _) rfl rfl (by decide) ?_)
 intro p hp
 simp only [List.mem_cons, List.mem_nil_iff, or_false] at hp
 rcases hp with rfl | rfl
 ·exact ⟨by simp, (alloc_old (alloc_old e0))⟩
 ·exact ⟨by simp, (alloc_old e1)⟩
theorem lit_many (w : World) {G : World → Prop} (h : ∀ W, Below w.heap.size w W → RdLL W (.slice (some ⟨w.heap.size + 1 + 1 + 1, 0, none⟩) 3 3) [[0], [0, 2], [2]] → G W) : G ((((w.alloc (.cells #[.int .i64 0] 3)).alloc (.cells #[.int .i64 0, .int .i64 2] 3)).alloc (.cells #[.int .i64 2] 3)).alloc (.cells #[.slice (some ⟨w.heap.size, 0, none⟩) 1 1, .slice (some ⟨w.heap.size + 1, 0, none⟩) 2 2, .slice (some ⟨w.heap.size + 1 + 1, 0, none⟩) 1 1] 31)) := by
 have e0 := heap_alloc_new w (.cells #[.int .i64 0] 3)
 have e1 := heap_alloc_new (w.alloc (.cells #[.int .i64 0] 3)) (.cells #[.int .i64 0, .int .i64 2] 3)
 have e2 := heap_alloc_new ((w.alloc (.cells #[.int .i64 0] 3)).alloc (.cells #[.int .i64 0, .int .i64 2] 3)) (.cells #[.int .i64 2] 3)
 simp only [World.size_alloc] at e0 e1 e2
 refine h _ (below4 w _ _ _ _) (rdLL_box 31 3 _ 3 _ [(w.heap.size, [0]), (w.heap.size + 1, [0, 2]), (w.heap.size + 1 + 1, [2])] (heap_last4 w _ _ _ _) rfl rfl (by decide) ?_)
 intro p hp
 simp only [List.mem_cons, List.mem_nil_iff, or_false] at hp
 rcases hp with rfl | rfl | rfl
 ·exact ⟨by simp, (alloc_old (alloc_old (alloc_old e0)))⟩
 ·exact ⟨by simp, (alloc_old (alloc_old e1))⟩
 ·exact ⟨by simp, (alloc_old e2)⟩
theorem lit_four (w : World) {G : World → Prop} (h : ∀ W, Below w.heap.size w W → RdLL W (.slice (some ⟨w.heap.size + 1 + 1 + 1 + 1, 0, none⟩) 4 4) [[0, 1], [0, 1, 2, 3], [0, 3], [2, 3]] → G W) : G (((((w.alloc (.cells #[.int .i64 0, .int .i64 1] 3)).alloc (.cells #[.int .i64 0, .int .i64 1, .int .i64 2, .int .i64 3] 3)).alloc (.cells #[.int .i64 0, .int .i64 3] 3)).alloc (.cells #[.int .i64 2, .int .i64 3] 3)).alloc (.cells #[.slice (some ⟨w.heap.size, 0, none⟩) 2 2, .slice (some ⟨w.heap.size + 1, 0, none⟩) 4 4, .slice (some ⟨w.heap.size + 1 + 1, 0, none⟩) 2 2, .slice (some ⟨w.heap.size + 1 + 1 + 1, 0, none⟩) 2 2] 31)) := by
 have e0 := heap_alloc_new w (.cells #[.int .i64 0, .int .i64 1] 3)
 have e1 := heap_alloc_new (w.alloc (.cells #[.int .i64 0, .int .i64 1] 3)) (.cells #[.int .i64 0, .int .i64 1, .int .i64 2, .int .i64 3] 3)
 have e2 := heap_alloc_new ((w.alloc (.cells #[.int .i64 0, .int .i64 1] 3)).alloc (.cells #[.int .i64 0, .int .i64 1, .int .i64 2, .int .i64 3] 3)) (.cells #[.int .i64 0, .int .i64 3] 3)
 have e3 := heap_alloc_new (((w.alloc (.cells #[.int .i64 0, .int .i64 1] 3)).alloc (.cells #[.int .i64 0, .int .i64 1, .int .i64 2, .int .i64 3] 3)).alloc (.cells #[.int .i64 0, .int .i64 3] 3)) (.cells #[.int .i64 2, .int .i64 3] 3)
 simp only [World.size_alloc] at e0 e1 e2 e3
 refine h _ (below5 w _ _ _ _ _) (rdLL_box 31 3 _ 4 _ [(w.heap.size, [0, 1]), (w.heap.size + 1, [0, 1, 2, 3]), (w.heap.size + 1 + 1, [0, 3]), (w.heap.size + 1 + 1 + 1, [2, 3])] (heap_last5 w _ _ _ _ _) rfl rfl (by decide) ?_)
 intro p hp
 simp only [List.mem_cons, List.mem_nil_iff, or_false] at hp
 rcases hp with rfl | rfl | rfl | rfl
 ·exact ⟨by simp, (alloc_old (alloc_old (alloc_old (alloc_old e0))))⟩
 ·exact ⟨by simp, (alloc_old (alloc_old (alloc_old e1)))⟩
 ·exact ⟨by simp, (alloc_old (alloc_old e2))⟩
 ·exact ⟨by simp, (alloc_old e3)⟩
theorem a_lit (w : World) : Calls Tryz.prog 70 #[] w fun e w' => e = .returned (.agg #[.int .i64 1, .int .i64 0, .int .i64 0, .int .i64 9, .int .i64 0, .slice none 0 0]) ∧ Below w.heap.size w w' := a_law w
theorem b_lit (w : World) : Calls Tryz.prog 71 #[] w fun e w' => e = .returned (.agg #[.int .i64 1, .int .i64 1, .int .i64 5, .int .i64 5, .int .i64 0, .slice none 0 0]) ∧ Below w.heap.size w w' := b_law w
theorem lit_auto (w : World) {G : World → Prop} (h : ∀ W, Below w.heap.size w W → AutoAt W (.slice (some ⟨w.heap.size, 0, none⟩) 2 2) (.slice (some ⟨w.heap.size + 1, 0, none⟩) 1 1) (.slice (some ⟨w.heap.size + 1 + 1, 0, none⟩) 1 1) (.slice (some ⟨w.heap.size + 1 + 1 + 1, 0, none⟩) 2 2) auK → W.heap[w.heap.size + 1 + 1 + 1 + 1]? = some (.cells #[.slice (some ⟨w.heap.size, 0, none⟩) 2 2, .slice (some ⟨w.heap.size + 1, 0, none⟩) 1 1, .slice (some ⟨w.heap.size + 1 + 1, 0, none⟩) 1 1, .slice (some ⟨w.heap.size + 1 + 1 + 1, 0, none⟩) 2 2] 34 (0, 0)) → G W) : G (((((w.alloc (.cells #[.int .i64 0, .int .i64 0, .int .i64 9, .int .i64 1, .int .i64 5, .int .i64 5] 24)).alloc (.cells #[.int .i64 0] 3)).alloc (.cells #[.int .i64 1] 3)).alloc (.cells #[.int .i64 0, .int .i64 1, .int .i64 10, .bool false, .int .i64 0, .int .i64 0, .int .i64 0, .int .i64 1, .int .i64 0, .int .i64 3, .bool false, .int .i64 0, .int .i64 0, .int .i64 0] 123)).alloc (.cells #[.slice (some ⟨w.heap.size, 0, none⟩) 2 2, .slice (some ⟨w.heap.size + 1, 0, none⟩) 1 1, .slice (some ⟨w.heap.size + 1 + 1, 0, none⟩) 1 1, .slice (some ⟨w.heap.size + 1 + 1 + 1, 0, none⟩) 2 2] 34)) := by
 have e0 := heap_alloc_new w (.cells #[.int .i64 0, .int .i64 0, .int .i64 9, .int .i64 1, .int .i64 5, .int .i64 5] 24)
 have e1 := heap_alloc_new (w.alloc (.cells #[.int .i64 0, .int .i64 0, .int .i64 9, .int .i64 1, .int .i64 5, .int .i64 5] 24)) (.cells #[.int .i64 0] 3)
 have e2 := heap_alloc_new ((w.alloc (.cells #[.int .i64 0, .int .i64 0, .int .i64 9, .int .i64 1, .int .i64 5, .int .i64 5] 24)).alloc (.cells #[.int .i64 0] 3)) (.cells #[.int .i64 1] 3)
 have e3 := heap_alloc_new (((w.alloc (.cells #[.int .i64 0, .int .i64 0, .int .i64 9, .int .i64 1, .int .i64 5, .int .i64 5] 24)).alloc (.cells #[.int .i64 0] 3)).alloc (.cells #[.int .i64 1] 3)) (.cells #[.int .i64 0, .int .i64 1, .int .i64 10, .bool false, .int .i64 0, .int .i64 0, .int .i64 0, .int .i64 1, .int .i64 0, .int .i64 3, .bool false, .int .i64 0, .int .i64 0, .int .i64 0] 123)
 have e4 := heap_alloc_new ((((w.alloc (.cells #[.int .i64 0, .int .i64 0, .int .i64 9, .int .i64 1, .int .i64 5, .int .i64 5] 24)).alloc (.cells #[.int .i64 0] 3)).alloc (.cells #[.int .i64 1] 3)).alloc (.cells #[.int .i64 0, .int .i64 1, .int .i64 10, .bool false, .int .i64 0, .int .i64 0, .int .i64 0, .int .i64 1, .int .i64 0, .int .i64 3, .bool false, .int .i64 0, .int .i64 0, .int .i64 0] 123)) (.cells #[.slice (some ⟨w.heap.size, 0, none⟩) 2 2, .slice (some ⟨w.heap.size + 1, 0, none⟩) 1 1, .slice (some ⟨w.heap.size + 1 + 1, 0, none⟩) 1 1, .slice (some ⟨w.heap.size + 1 + 1 + 1, 0, none⟩) 2 2] 34)
 simp only [World.size_alloc] at e0 e1 e2 e3 e4
 refine h _ (below5 w _ _ _ _ _) ⟨?_, ?_, ?_, ?_⟩ e4
 ·exact rd_box (enc := Test.cells) (k := 3) (fun _ => rfl) 24 auK.tests _ 2 _ (alloc_old (alloc_old (alloc_old (alloc_old e0)))) rfl rfl (by decide)
 ·exact rd_box (enc := intC) (k := 1) (fun _ => rfl) 3 auK.first _ 1 _ (alloc_old (alloc_old (alloc_old e1))) rfl rfl (by decide)
 ·exact rd_box (enc := intC) (k := 1) (fun _ => rfl) 3 auK.last _ 1 _ (alloc_old (alloc_old e2)) rfl rfl (by decide)
 ·exact rd_box (enc := edgeC) (k := 7) (fun _ => rfl) 123 auK.follow _ 2 _ (alloc_old e3) rfl rfl (by decide)
theorem lit_02 (w : World) {G : World → Prop} (h : ∀ W, Below w.heap.size w W → Rd intC 1 W (.slice (some ⟨w.heap.size, 0, none⟩) 2 2) [0, 2] → G W) : G (w.alloc (.cells #[.int .i64 0, .int .i64 2] 3)) :=
 h _ ((Below.refl _ _).alloc (Nat.le_refl _) _) (rd_box (enc := intC) (k := 1) (fun _ => rfl) 3 [0, 2] _ 2 _ (heap_alloc_new w _) rfl rfl (by decide))
theorem pick_k (b : Nat) (v : Value) (w : World) (hr : Rd Ev.cells 5 w (.slice (some ⟨b, 0, none⟩) 4 4) ev4) (hk : RdK w abN.ks v) :
 Calls Tryz.prog 30 #[.agg (queryA abN v 200 false), .int .i64 2, .slice (some ⟨b, 0, none⟩) 4 4] w fun e w' => ∃ v', e = .returned (.tuple #[v', .int .i64 0]) ∧ RdLL w' v' [[0, 1], [2, 3]] ∧ Below w.heap.size w w' := by
 refine (pick_sorted ev4 (some ⟨b, 0, none⟩) 4 (Nat.le_refl _) abN v 200 false 2 w hr hk _ res_ab (by decide) (by decide) ?_ ?_).mono ?_
 ·intro j x y hx hy
  match j with
  | 0 => cases hx; cases hy; decide
  | 1 => cases hx; cases hy; decide
  | j + 2 => simp at hy
 ·intro x hx
  simp only [List.mem_cons, List.mem_nil_iff, or_false] at hx
  rcases hx with rfl | rfl | rfl <;> decide
 ·rintro e w' ⟨v', rfl, h1, h2⟩
  rw [greedy_ab] at h1
  exact ⟨v', rfl, h1.rdLL, h2⟩
theorem is_k4 (b : Nat) (v u : Value) (w : World) (hr : Rd Ev.cells 5 w (.slice (some ⟨b, 0, none⟩) 4 4) ev4) (hu : Rd intC 1 w u [0, 2]) (hk : RdK w (manyN 4 (oneN tA)).ks v) :
 Calls Tryz.prog 24 #[.agg (queryA (manyN 4 (oneN tA)) v 200 false), .int .i64 2, .slice (some ⟨b, 0, none⟩) 4 4, u] w fun e w' => e = .returned (.tuple #[.bool false, .int .i64 0]) ∧ Below w.heap.size w w' := by
 obtain ⟨a, c, rfl⟩ : ∃ a c, u = .slice a 2 c := by obtain ⟨_, a, c, rfl, _⟩ := hu; exact ⟨a, c, rfl⟩
 refine (is_out ev4 (some ⟨b, 0, none⟩) 4 (Nat.le_refl _) [0, 2] a c (manyN 4 (oneN tA)) v 200 false 2 w hr hu hk).mono ?_
 rintro e w' ⟨rfl, h⟩
 rw [is_four]
 exact ⟨rfl, h⟩
theorem is_k5 (b : Nat) (v u : Value) (w : World) (hr : Rd Ev.cells 5 w (.slice (some ⟨b, 0, none⟩) 4 4) ev4) (hu : Rd intC 1 w u [0, 2]) (hk : RdK w (manyN 5 (oneN tA)).ks v) :
 Calls Tryz.prog 24 #[.agg (queryA (manyN 5 (oneN tA)) v 200 false), .int .i64 2, .slice (some ⟨b, 0, none⟩) 4 4, u] w fun e w' => e = .returned (.tuple #[.bool true, .int .i64 0]) ∧ Below w.heap.size w w' := by
 obtain ⟨a, c, rfl⟩ : ∃ a c, u = .slice a 2 c := by obtain ⟨_, a, c, rfl, _⟩ := hu; exact ⟨a, c, rfl⟩
 refine (is_out ev4 (some ⟨b, 0, none⟩) 4 (Nat.le_refl _) [0, 2] a c (manyN 5 (oneN tA)) v 200 false 2 w hr hu hk).mono ?_
 rintro e w' ⟨rfl, h⟩
 rw [is_five]
 exact ⟨rfl, h⟩
theorem auto_k (v : Value) (w : World) (hk : RdK w (manyN 3 abN).ks v) :
 Calls Tryz.prog 14 #[.agg (queryA (manyN 3 abN) v 200 false), .int .i64 2] w fun e w' => ∃ v1 v2 v3 v4, e = .returned (.tuple #[.agg #[v1, v2, v3, v4], .int .i64 0]) ∧ AutoAt w' v1 v2 v3 v4 auK ∧ Below w.heap.size w w' := by
 refine (auto_out (manyN 3 abN) v 200 false 2 w hk).mono ?_
 rintro e w' ⟨v1, v2, v3, v4, rfl, h1, h2⟩
 rw [query_manyab, if_pos rfl, auto_manyab] at h1
 rw [query_manyab, if_pos rfl]
 exact ⟨v1, v2, v3, v4, rfl, h1, h2⟩
theorem run_k (b : Nat) (v1 v2 v3 v4 : Value) (w : World) (ha : AutoAt w v1 v2 v3 v4 auK) (hr : Rd Ev.cells 5 w (.slice (some ⟨b, 0, none⟩) 4 4) ev4) :
 Calls Tryz.prog 18 #[.agg #[v1, v2, v3, v4], .int .i64 200, .bool false, .int .i64 2, .slice (some ⟨b, 0, none⟩) 4 4] w fun e w' => ∃ v', e = .returned (.tuple #[v', .int .i64 0]) ∧ RdLL w' v' [[0, 1], [0, 1, 2, 3], [0, 3], [2, 3]] ∧ Below w.heap.size w w' := by
 refine (run_out v1 v2 v3 v4 auK 200 false 2 ev4 (some ⟨b, 0, none⟩) 4 w ha hr (Nat.le_refl _) (by decide)).mono ?_
 rintro e w' ⟨v', rfl, h1, h2⟩
 rw [run_auK] at h1
 rw [run_auK]
 exact ⟨v', rfl, h1.rdLL, h2⟩
theorem sameAuto_k (v1 v2 v3 v4 u1 u2 u3 u4 : Value) (w : World) (ha : AutoAt w v1 v2 v3 v4 auK) (hb : AutoAt w u1 u2 u3 u4 auK) :
 Calls Tryz.prog 16 #[.agg #[v1, v2, v3, v4], .agg #[u1, u2, u3, u4]] w fun e w' => e = .returned (.bool true) ∧ Below w.heap.size w w' := by
 have hs : smallL auK.first ∧ smallL auK.last := by
  constructor <;> (intro z hz; simp only [auK, List.mem_cons, List.mem_nil_iff, or_false] at hz; subst hz; decide)
 refine (sameAuto_any v1 v2 v3 v4 u1 u2 u3 u4 auK auK w ha hb hs.1 hs.1 hs.2 hs.2).mono ?_
 rintro e w' ⟨rfl, h⟩
 rw [decide_eq_true (rfl : auK = auK)]
 exact ⟨rfl, h⟩
end
end Go.Proofs.YtgiploddoffmjaaGreat
