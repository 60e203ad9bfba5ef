/- My texts, joined: W21, W22, W23, W24, W25, Base11, W38, Base12, W39, W40, W41, W42. -/
import Derived.Below
import Derived.BigQuiet
import Derived.Deep.AppendLies
import Derived.Deep.DeepCutAuto
import Derived.Deep.QuietTactic
import Derived.Deep.RegionHeld
import Derived.Deep.RegionHeld3
import Derived.Deep.RegionLaw
import Derived.Defers
import Derived.Ground.Names2Prog
import Derived.Ground.Names8Prog
import Derived.Ground.SlsfProg
import Derived.Handy
import Derived.KernelRfl
import Derived.Laws.AppendOwn
import Derived.Laws.AppendOwnNone
import Derived.Laws.CopyRow
import Derived.Laws.Pointers
import Derived.Lib.Hide
import Derived.Lib.Overlaps
import Derived.LoopIn
import Derived.LoopN
import Derived.LoopNIn
import Derived.LoopTactic
import Derived.MapKept
import Derived.Maps.AppendAt
import Derived.Maps.OwnOps
import Derived.Maps.RangeRun
import Derived.Maps.RangeWalk
import Derived.Outline
import Derived.OwnWalk
import Derived.OwnWalkIn
import Derived.RangeFuncBound
import Derived.RangeFuncCalls
import Derived.RangeFuncLeaves
import Derived.RangeFuncNested
import Derived.Recover
import Derived.Shelf.Abstract
import Derived.Shelf.RegionOpen
import Derived.Shelf.SlGeneric
import Derived.Shelf.SlLaysF0
import Derived.Shelf.SlSortCmp.HeapSort1
import Derived.Shelf.SlSortCmp.Insertion
import Derived.Shelf.SlSortCmp.Insertion1
import Derived.Shelf.SlSortCmp.Median1
import Derived.Shelf.SlSortCmp.NoneTotal
import Derived.Shelf.SlSortCmp.PartialInsertion1
import Derived.Shelf.SlSortCmp.Partition1
import Derived.Shelf.SlSortCmp.PartitionEqual1
import Derived.Shelf.SlSortCmp.Pdq1
import Derived.Shelf.SlSortCmp.Pivot1
import Derived.Shelf.SlSortCmp.ReverseRange1
import Derived.Shelf.SlSortCmp.SiftDown1
import Derived.Shelf.SlSortCmp.Whole1
import Derived.Shelf.SlSortCmp.WholeK
import Derived.Shelf.Slices.In.SortNone
import Derived.Shelf.Small.Bits
import Derived.Shelf.Sort.Plain
import Derived.Shelf.Spec.SlicesGrow
import Derived.TacticsInMore
import Derived.Test.YtgiploddoffmjaaGreatProg
import Derived.WalkKit
import Derived.WalkLawsBesides
import Derived.WalkSpells
import Derived.Test.YtgiploddoffmjaaGreatM0
import Derived.Test.YtgiploddoffmjaaGreatM1
import Derived.Test.YtgiploddoffmjaaGreatM2
import Derived.Test.YtgiploddoffmjaaGreatM3
import Derived.Test.YtgiploddoffmjaaGreatM4
import Derived.Test.YtgiploddoffmjaaGreatM5
import Derived.Test.YtgiploddoffmjaaGreatM6
import Derived.Test.YtgiploddoffmjaaGreatM8
import Derived.Test.YtgiploddoffmjaaGreatM9
import Derived.Test.YtgiploddoffmjaaGreatM10
import Derived.Test.YtgiploddoffmjaaGreatM11
set_option linter.unusedVariables false
set_option linter.unusedSimpArgs false
set_option linter.unusedSectionVars false
set_option maxRecDepth 10000
namespace Go.Proofs.YtgiploddoffmjaaGreat
section
open Go.RowKit Go.Shelf
theorem info_int : (Tryz.prog.info? 3).map (fun i => (i.zero, i.size, i.bytes)) = some (some (.int .i64 0), 1, 8) := by kernel_rfl
theorem info_row : (Tryz.prog.info? 31).map (fun i => (i.zero, i.size, i.bytes)) = some (some (.slice none 0 0), 1, 24) := by kernel_rfl
theorem intC_one (z : Int) : ∀ u ∈ intC z, u.oneCell' = true := by simp [intC, Value.oneCell']
theorem intsGrow_nil (n : Nat) (w : World) (hn : n ≤ 1000000) :
 Calls Tryz.prog 195 #[.slice none 0 0, .int .i64 n] w fun e w' => ∃ a c, e = .returned (.slice a 0 c) ∧ WinC 1 3 w' (.slice a 0 c) (fun i => w.heap.size ≤ i) 0 [] ∧ Below w.heap.size w w' := by
 by_cases h0 : n = 0
 ·subst h0
  refine (Any8.slices_Grow_room Tryz.growInts none 0 0 0 w (by omega) (by omega) (by omega) (by omega)).mono ?_
  rintro e w' ⟨rfl, rfl⟩
  exact ⟨none, 0, rfl, winC_nil _ _ _ _, Below.refl _ _⟩
 ·obtain ⟨i0, hi0, hz⟩ := Option.map_eq_some_iff.1 info_int
  simp only [Prod.mk.injEq] at hz
  refine (Any8.slices_Grow_grow Tryz.growInts i0 _ hi0 hz.1 (by rw [hz.2.1]; omega) none 0 0 n [] w (by omega) (by omega) (by rw [hz.2.2]; omega) (by omega) (by simp) (fun _ => rfl) (fun a h => by cases h)).mono ?_
  rintro e w' ⟨rfl, rfl⟩
  have hge := grownCap_ge w (0 + n) 0 3
  have hle := grownCap_le_maxLen w (0 + n) 0 3 (by unfold maxLen; omega)
  refine ⟨_, _, rfl, ⟨by simp, .inr ⟨w.heap.size, 0, _, _, rfl, Nat.le_refl _, heap_alloc_new w.drew _, by omega, hle, ?_, by simp⟩⟩, (Below.refl _ _).drew.alloc (Nat.le_refl _) _⟩
  have e1 : (Tryz.growInts_ren).t 25 = 3 := rfl
  simp only [Array.size_append, size_zeroCells, List.size_toArray, List.length_nil, e1, Value.cells]
  simp
  omega
set_option maxHeartbeats 4000000 in
theorem intsConcat_any (B : Nat) (v1 v2 : Value) (xs ys : List Int) (w : World) (h1 : Rd intC 1 w v1 xs) (h2 : Rd intC 1 w v2 ys) (c1 : w.cell? ⟨B, 0, none⟩ = some v1) (c2 : w.cell? ⟨B, 1, none⟩ = some v2) (hx : xs.length ≤ 100000) (hy : ys.length ≤ 100000) :
 Calls Tryz.prog 141 #[.slice (some ⟨B, 0, none⟩) 2 2] w fun e w' => ∃ v, e = .returned v ∧ Win intC 1 3 w' v (fun i => w.heap.size ≤ i) (xs ++ ys) ∧ Below w.heap.size w w' := by
 obtain ⟨a1, k1, rfl⟩ : ∃ a c, v1 = .slice a xs.length c := by obtain ⟨_, a, c, rfl, _⟩ := h1; exact ⟨a, c, rfl⟩
 obtain ⟨a2, k2, rfl⟩ : ∃ a c, v2 = .slice a ys.length c := by obtain ⟨_, a, c, rfl, _⟩ := h2; exact ⟨a, c, rfl⟩
 have HR := zH (zA (rdC_of_rd intC_len (by decide) intC_one h1) (rdC_of_rd intC_len (by decide) intC_one h2))
 have HG := zH (fun W => intsGrow_nil (xs.length + ys.length) W (by omega))
 have m1 : ¬ ((xs.length : Int) < 0) := by omega
 have m2 : ¬ ((xs.length : Int) + (ys.length : Int) < 0) := by omega
 have m3 : IntKind.i64.wrap ((xs.length : Int) + (ys.length : Int)) = (xs.length : Int) + (ys.length : Int) := Go.IntWalk.i64_in _ (by omega)
 have m4 : ((xs.length + ys.length : Nat) : Int) = (xs.length : Int) + (ys.length : Int) := by omega
 rw [m4] at HG
 clear h1 h2 m4
 go_enter Tryz.func141, Tryz.ntmps141
 go_wp2
 refine wp_loop_rounds 3 ?_
 rw [rounds_succ]
 go_wp2
 rw [rounds_succ]
 go_wp2
 rw [rounds_succ]
 go_wp2_with (go_at_call 195; refine (HG.out _).mono ?_; rintro e w1 ⟨ga, gc, rfl, hw1, hb1⟩)
 have d1 := zB hb1 c1
 have d2 := zB hb1 c2
 refine wp_loop_rounds 3 ?_
 rw [rounds_succ]
 go_wp2_with (at_builtin; (refine wpList_append_rd w1 (by rfl) _ _ _ (by rfl) 3 1 8 _ Tryz.underlying31 info_int rfl (by decide) _ _ 0 [] (by rfl) _ (by rfl) hw1 xs.length _ (rdC_below HR.out.1 hb1) (by unfold maxLen; omega) (by omega) ?_); intro v2 w2 hwin2 hfr2 hsz2; simp only [Nat.zero_add, List.nil_append] at hwin2; obtain ⟨g2, gc2, rfl, hn2, hm2⟩ := zS hwin2)
 have hob1 := winC_ob hw1
 have hb2 : Below w.heap.size w w2 := hb1.trans (zO hfr2 hb1.size fun i hi => (hob1 i hi).1)
 have e2 := zB hb2 c2
 have e1 := zB hb2 c1
 rw [rounds_succ]
 go_wp2_with (at_builtin; (refine wpList_append_rd w2 (by rfl) _ _ _ (by rfl) 3 1 8 _ Tryz.underlying31 info_int rfl (by decide) _ _ xs.length _ (by rfl) _ (by rfl) hwin2 ys.length _ (rdC_below HR.out.2 hb2) (by unfold maxLen; omega) (by omega) ?_); intro v3 w3 hwin3 hfr3 hsz3; obtain ⟨g3, gc3, rfl, hn3, hm3⟩ := zS hwin3)
 have hob2 := winC_ob hwin2
 have s2 := hfr2.size
 have s1 := hb1.size
 have hz2 : w.heap.size ≤ w2.heap.size := by omega
 have hob2' : ∀ i, some i = (Value.slice g2 xs.length gc2).ownBlock → w.heap.size ≤ i := fun i hi => by have := hob2 i hi; first | omega | (simp at this; omega)
 have hb3 : Below w.heap.size w w3 := hb2.trans (zO hfr3 hz2 hob2')
 have HW := zH (zA hwin3 hb3)
 clear hwin2 hwin3 hfr2 hfr3 hb1 hb2 hb3 hob1 hob2 hob2' hw1
 rw [rounds_succ]
 go_wp2
 go_ret
 refine ⟨_, rfl, ?_, HW.out.2⟩
 refine (?_ : WinC _ _ _ _ _ _ _)
 rw [List.length_append, List.flatMap_append]
 exact zN HW.out.1 fun i hi => by first | omega | (simp at hi; omega)
end
section
open Go.RowKit Go.Shelf
theorem RowAt.keep {w W : World} {lo lo' : Nat} {v : Value} {gs : List Row} {p : Row} (h : LL w lo v gs) (hf : Fr (fun i => some i = v.ownBlock) w W) (hp : RowAt w lo' p) : RowAt W lo' p := by
 rcases h.1.2 with ⟨rfl, _⟩ | ⟨b, off, c, cur, rfl, _, hg, _⟩
 ·exact hp.below (zO hf (Nat.le_refl _) fun i hi => by simp [Value.ownBlock] at hi)
 ·exact hp.move hg (fr_mono hf fun i hi => by simpa [Value.ownBlock] using hi)
theorem LL.push {w W : World} {lo : Nat} {v v' : Value} {gs ps : List Row} (h : LL w lo v gs) (hp : ∀ p ∈ ps, RowAt w lo p) (hlo : lo ≤ w.heap.size) {m : Nat} (hm : ps.length = m)
 (hw : WinC 1 31 W v' (fun i => (lo ≤ i ∧ i < w.heap.size) ∨ i = w.heap.size) (gs.length + m) (gs.flatMap rowC ++ ps.flatMap rowC)) (hf : Fr (fun i => some i = v.ownBlock) w W) : LL W lo v' (gs ++ ps) ∧ Below lo w W := by
 subst hm
 refine ⟨⟨?_, fun p hq => ?_⟩, zO hf hlo fun i hi => (winC_ob h.1 i hi).1⟩
 ·refine (?_ : WinC _ _ _ _ _ _ _)
  rw [List.length_append, List.flatMap_append]
  exact zN hw fun i hi => by omega
 ·rcases List.mem_append.1 hq with hq | hq
  ·exact (h.2 p hq).keep h hf
  ·exact (hp p hq).keep h hf
theorem RowAt.of_win {w : World} {lo : Nat} {v : Value} {xs : List Int} (h : Win intC 1 3 w v (fun i => lo ≤ i) xs) (hx : xs ≠ []) : RowAt w lo (v, xs) := by
 refine ⟨hx, win_rd intC_len h, fun i hi => ?_⟩
 rcases h.2 with ⟨rfl, _⟩ | ⟨b, off, c, cur, rfl, hS, hg, _⟩
 ·simp [Value.ownBlock] at hi
 ·have e : i = b := by simpa [Value.ownBlock] using hi
  subst e
  exact ⟨hS, cur, _, hg⟩
theorem LL.cell {w : World} {lo : Nat} {a : Option Addr} {n c : Nat} {gs : List Row} (h : LL w lo (.slice a n c) gs) {i : Nat} {p : Row} (hp : gs[i]? = some p) :
 ∃ b off bx ox cx, a = some ⟨b, off, none⟩ ∧ p.1 = .slice (some ⟨bx, ox, none⟩) p.2.length cx ∧ w.cell? ⟨b, off + i, none⟩ = some (.slice (some ⟨bx, ox, none⟩) p.2.length cx) ∧ RowAt w lo p := by
 have hr := h.2 p (List.mem_of_getElem? hp)
 obtain ⟨b, off, ha, _, hc⟩ := rd_at (win_rd row_len h.1) hp
 obtain ⟨hne, ⟨_, a', cx, hv, hq⟩, _⟩ := id hr
 obtain ⟨bx, ox, rfl, _⟩ := hq (by cases hp2 : p.2 with | nil => exact absurd hp2 hne | cons => simp)
 have h0 := hc 0 _ rfl
 rw [Nat.mul_one, Nat.add_zero, hv] at h0
 exact ⟨b, off, bx, ox, cx, ha, hv, h0, hr⟩
theorem RowAt.ends {w : World} {lo bx ox cx : Nat} {xs : List Int} (h : RowAt w lo (.slice (some ⟨bx, ox, none⟩) xs.length cx, xs)) : w.cell? ⟨bx, ox, none⟩ = some (.int .i64 (headI xs)) ∧ w.cell? ⟨bx, ox + (xs.length - 1), none⟩ = some (.int .i64 (lastI xs)) ∧ 0 < xs.length ∧ xs.length ≤ 9223372036854775807 := by
 obtain ⟨hne, hr, _⟩ := h
 dsimp only at hne hr
 have hpos : 0 < xs.length := by cases xs with | nil => exact absurd rfl hne | cons => simp
 have h0 : xs[0]? = some (headI xs) := by cases xs with | nil => exact absurd rfl hne | cons => rfl
 have h1 : xs[xs.length - 1]? = some (lastI xs) := by
  rw [← List.getLast?_eq_getElem?, lastI, List.getLastD_eq_getLast?, List.getLast?_eq_some_getLast hne]
  rfl
 obtain ⟨_, _, e, _, hc⟩ := rd_at hr h0
 injection e with e
 injection e with e1 e2
 subst e1; subst e2
 obtain ⟨_, _, e, _, hc1⟩ := rd_at hr h1
 injection e with e
 injection e with e1 e2
 subst e1; subst e2
 have c0 := hc 0 _ rfl
 have c1 := hc1 0 _ rfl
 rw [Nat.mul_one, Nat.add_zero] at c0 c1
 exact ⟨by simpa using c0, c1, hpos, hr.1⟩
theorem joinP_snoc {l : List Ev} {n : Int} {lk : Option Test} {A B : List (List Int)} {i : Nat} {x : List Int} (h : A[i]? = some x) : joinP l n lk (A.take (i + 1)) B = joinP l n lk (A.take i) B ++ (B.filter fun y => linkP l n lk (lastI x) (headI y)).map (x ++ ·) := by
 rw [joinP, joinP, List.take_add_one, h, List.flatMap_append]
 simp
theorem filter_snoc {p : List Int → Bool} {B : List (List Int)} {j : Nat} {y : List Int} (h : B[j]? = some y) : (B.take (j + 1)).filter p = (B.take j).filter p ++ if p y then [y] else [] := by
 rw [List.take_add_one, h, List.filter_append]
 cases hp : p y <;> simp [hp]
end
section
open Go.RowKit Go.Shelf
set_option maxHeartbeats 8000000 in
theorem joined_any (l : List Ev) (al : Option Addr) (cl : Nat) (n : Int) (lp : Option Addr) (lk : Option Test) (va vb : Value) (la lb : Nat) (ga gb : List Row) (w : World)
 (hr : Rd Ev.cells 5 w (.slice al l.length cl) l) (hcl : l.length ≤ cl) (hat : ∀ e ∈ l, 0 ≤ e.at_ ∧ e.at_ ≤ 200) (hl60 : l.length ≤ 60) (hlk : LackAt w lp lk)
 (ha : LL w la va ga) (hb : LL w lb vb gb) (ia : ∀ x ∈ nums ga, incI l x) (ib : ∀ x ∈ nums gb, incI l x) (sa : ga.length ≤ 500) (sb : gb.length ≤ 500) :
 Calls Tryz.prog 262 #[.slice al l.length cl, va, vb, .int .i64 n, .pointer lp] w fun e w' => ∃ v gs, e = .returned v ∧ nums gs = joinP l n lk (nums ga) (nums gb) ∧ LL w' w.heap.size v gs ∧ gs.length ≤ ga.length * gb.length ∧ Below w.heap.size w w' := by
 obtain ⟨aa, ca, rfl, _, hal⟩ := ha.form
 obtain ⟨ab, cb, rfl, _, hbl⟩ := hb.form
 have HA := zH (zA ha ia)
 have HBB := zH (zA hb ib)
 have HF := zH (zA hr (zA hcl (zA hat (zA hl60 hlk))))
 clear ha hb ia ib hr hcl hat hl60 hlk
 go_enter Tryz.func262, Tryz.ntmps262
 go_wp2
 go_loopw [18, 11] (fun i v W => ∃ (m : Nat) (a1 : Option Addr) (c1 : Nat) (gs : List Row), i = .int .i64 m ∧ v = .slice a1 gs.length c1 ∧ m ≤ ga.length ∧ nums gs = joinP l n lk ((nums ga).take m) (nums gb) ∧ LL W w.heap.size (.slice a1 gs.length c1) gs ∧ gs.length ≤ m * gb.length ∧ Below w.heap.size w W) (fun i _ _ => ga.length - (intOf i).toNat)
 case atStart => exact ⟨0, none, 0, [], rfl, rfl, by omega, rfl, LL.nil _ _, by simp, Below.refl _ _⟩
 case round =>
  obtain ⟨m, a1, c1, gs, rfl, rfl, hm, hn, hLL, hlen, hB⟩ := hrel
  by_cases hlt : m < ga.length
  rotate_left
  ·obtain rfl : m = ga.length := by omega
   rw [← nums_len ga, List.take_length] at hn
   have HX := zH (zA hn (zA hLL (zA hlen hB)))
   clear hn hLL hlen hB
   go_wp2
   go_ret
   exact ⟨_, gs, rfl, HX.out.1, HX.out.2.1, HX.out.2.2.1, HX.out.2.2.2⟩
  have hx := List.getElem?_eq_getElem hlt
  have mx : ga[m] ∈ ga := List.getElem_mem hlt
  generalize ga[m] = x at hx mx
  obtain ⟨vx, xs⟩ := x
  obtain ⟨b, off, bx, ox, cx, rfl, ex, q0, rx⟩ := (HA.out.1.below hB).cell hx
  dsimp only at ex q0
  subst ex
  have hix := HA.out.2 xs (List.mem_map.2 ⟨_, mx, rfl⟩)
  have n1 : (m : Int) < (ga.length : Int) := by omega
  have hjs := joinP_snoc (l := l) (n := n) (lk := lk) (B := nums gb) (nums_get hx)
  have HO := zH (zA hn (zA hLL (zA hlen (zA hB (zA rx (zA hix hjs))))))
  have hlc := hLL.form
  clear hx mx hn hLL hlen hB rx hix hjs hlc
  generalize wr = w1 at *
  go_wp2
  go_loopw [24, 11] (fun j v W => ∃ (k : Nat) (a2 : Option Addr) (c2 : Nat) (hs : List Row), j = .int .i64 k ∧ v = .slice a2 hs.length c2 ∧ k ≤ gb.length ∧ nums hs = joinP l n lk ((nums ga).take m) (nums gb) ++ (((nums gb).take k).filter fun y => linkP l n lk (lastI xs) (headI y)).map (xs ++ ·) ∧ LL W w.heap.size (.slice a2 hs.length c2) hs ∧ hs.length ≤ m * gb.length + k ∧ Below w.heap.size w W ∧ RowAt W la (.slice (some ⟨bx, ox, none⟩) xs.length cx, xs)) (fun j _ _ => gb.length - (intOf j).toNat)
  case atStart => exact ⟨0, a1, c1, gs, rfl, rfl, by omega, by simpa using HO.out.1, HO.out.2.1, by have := HO.out.2.2.1; omega, HO.out.2.2.2.1, HO.out.2.2.2.2.1⟩
  case round =>
   obtain ⟨k, a2, c2, hs, rfl, rfl, hk, hn, hLL, hlen, hB, rx⟩ := hrel
   by_cases hlt2 : k < gb.length
   rotate_left
   ·obtain rfl : k = gb.length := by omega
    rw [← nums_len gb, List.take_length] at hn
    have HX := zH (zA hn (zA hLL (zA hlen hB)))
    clear hn hLL hlen hB rx
    go_wp2
    go_roundw
    case rel => exact ⟨m + 1, a2, c2, hs, by go_num, rfl, by omega, by rw [HO.out.2.2.2.2.2.2]; exact HX.out.1, HX.out.2.1, by have := HX.out.2.2.1; rw [Nat.add_mul, Nat.one_mul]; exact this, HX.out.2.2.2⟩
    case measure => simp [intOf]; omega
   have hy := List.getElem?_eq_getElem hlt2
   have my : gb[k] ∈ gb := List.getElem_mem hlt2
   generalize gb[k] = y at hy my
   obtain ⟨vy, ys⟩ := y
   obtain ⟨b2, off2, by_, oy, cy, rfl, ey, q1, ry⟩ := (HBB.out.1.below hB).cell hy
   dsimp only at ey q1
   subst ey
   have hiy := HBB.out.2 ys (List.mem_map.2 ⟨_, my, rfl⟩)
   have hfs := filter_snoc (p := fun y => linkP l n lk (lastI xs) (headI y)) (nums_get hy)
   obtain ⟨_, qx, lx, hx63⟩ := rx.ends
   obtain ⟨qy, _, ly, hy63⟩ := ry.ends
   have hb2 : Below wr.heap.size wr wr.drew := (Below.refl _ _).drew
   have hix := HO.out.2.2.2.2.2.1
   have lx0 := hix.2.2 _ (lastI_mem hix.1)
   have ly0 := hiy.2.2 _ (headI_mem hiy.1)
   have hxl := incI_length hix
   have hyl := incI_length hiy
   obtain ⟨na, hna⟩ : ∃ na : Nat, lastI xs = (na : Int) := ⟨(lastI xs).toNat, by omega⟩
   obtain ⟨nb, hnb⟩ : ∃ nb : Nat, headI ys = (nb : Int) := ⟨(headI ys).toNat, by omega⟩
   rw [hna] at qx
   rw [hnb] at qy
   have hB2 := hB.trans (hb2.mono hB.size)
   obtain ⟨hr, hcl, hat, hl60, hlk⟩ := HF.out
   obtain ⟨r, hrr⟩ : ∃ r, r = linkP l n lk na nb := ⟨_, rfl⟩
   have hc := follows_any l al cl na nb n lp lk wr.drew (hr.below hB2) hcl hat hl60 (hlk.below hB2) (by rw [hnb] at ly0; omega)
   rw [← hrr] at hc
   have HC := zH hc
   have hwx : IntKind.i64.wrap ((xs.length : Int) - 1) = ((xs.length - 1 : Nat) : Int) := by rw [Go.IntWalk.i64_in _ (by omega)]; omega
   have n2 : (k : Int) < (gb.length : Int) := by omega
   have n3 : ((xs.length - 1 : Nat) : Int) < (xs.length : Int) := by omega
   have n4 : (0 : Int) < (ys.length : Int) := by omega
   have n5 : 0 < ys.length := by omega
   obtain ⟨px, hpx⟩ : ∃ px, px = xs.length - 1 := ⟨_, rfl⟩
   rw [← hpx] at hwx qx n3
   have HY := zH (zA hn (zA hLL (zA hlen (zA hB (zA rx (zA ry (zA hfs (zA hna (zA hnb (zA hrr (zA hxl hyl)))))))))))
   have HB2 := zH hb2
   replace qx := zB hb2 qx
   replace qy := zB hb2 qy
   clear hy my hn hLL hlen hB hB2 rx ry hfs hna hnb hrr hb2 hr hcl hat hl60 hlk hc hix hiy lx0 ly0 hxl hyl hpx lx ly hx63 hy63
   go_wp2
   go_region_held3 (fun W => W.cell? ⟨bx, ox + px, none⟩ = some (.int .i64 na) ∧ W.cell? ⟨by_, oy, none⟩ = some (.int .i64 nb)) (first | exact ⟨qx, qy⟩ | exact ⟨zB hbJ qx, zB hbJ qy⟩ | go_keep) ((first | (go_at_call 157; (with_reducible refine HC.out.mono ?_); rintro _ wK ⟨rfl, hbJ⟩; have HBJ := zH (HB2.out.trans (hbJ.mono HB2.out.size))) | fail))
   all_goals
    obtain ⟨hn, hLL, hlen, hB, rx, ry, hfs, hna, hnb, hrr, hxl, hyl⟩ := HY.out
    have hBK := HBJ.out
    have hL2 := hLL.below hBK
    have rx2 := rx.below hBK
    have ry2 := ry.below hBK
    have hBw : Below w.heap.size w wK := hB.trans (hBK.mono hB.size)
    clear hbJ hBK hLL rx ry hB
    cases r with
    | false =>
     have HX := zH (zA hn (zA hL2 (zA hlen (zA hBw (zA rx2 (zA hfs (zA hna (zA hnb hrr))))))))
     clear hn hL2 hlen hBw rx2 ry2 hfs hna hnb hrr hxl hyl
     go_wp2
     go_roundw
     case rel =>
      obtain ⟨hn, hL2, hlen, hBw, rx2, hfs, hna, hnb, hrr⟩ := HX.out
      refine ⟨k + 1, a2, c2, hs, by go_num, rfl, by omega, ?_, hL2, by omega, hBw, rx2⟩
      rw [hfs, if_neg (by rw [hna, hnb, ← hrr]; decide), List.append_nil]
      exact hn
     case measure => simp [intOf]; omega
    | true =>
     have hst : Below wK.heap.size wK (wK.alloc (.cells #[.slice (some ⟨bx, ox, none⟩) xs.length cx, .slice (some ⟨by_, oy, none⟩) ys.length cy] 31)) := (Below.refl _ _).alloc (Nat.le_refl _) _
     have h60 := HF.out.2.2.2.1
     have hcc := (intsConcat_any wK.heap.size _ _ xs ys _ (rx2.2.1.below hst) (ry2.2.1.below hst) (box_at wK _ _ 0) (box_at wK _ _ 1) (by omega) (by omega))
     obtain ⟨zs, hzs⟩ : ∃ zs, zs = xs ++ ys := ⟨_, rfl⟩
     rw [← hzs] at hcc
     have HCC := zH hcc
     have HZS := zH hzs
     clear hcc hzs h60
     have HX := zH (zA hn (zA hL2 (zA hlen (zA hBw (zA rx2 (zA hfs (zA hna (zA hnb (zA hrr (zA hst (zA hxl hyl)))))))))))
     clear hn hL2 hlen hBw rx2 ry2 hfs hna hnb hrr hst hxl hyl
     have HLE : hs.length ≤ 250000 + 500 := by
      have h1 := HX.out.2.2.1
      have h2 := Nat.mul_le_mul (show m ≤ 500 by omega) sb
      omega
     go_wp2_with (first | (go_at_call 141; refine HCC.out.mono ?_; rintro e w3 ⟨v3, rfl, hw3, hb3⟩; obtain ⟨a3, c3, rfl, hn3, hm3⟩ := zS hw3; have hLW := zM ((HX.out.2.1.below HX.out.2.2.2.2.2.2.2.2.2.1).below hb3).1 (fr_alloc (fun _ => False) w3 (.cells #[.slice a3 zs.length c3] 31)) (fun _ _ h => h); have HLW := zH (zA hLW (zA hw3 hb3)); clear hLW hw3 hb3) | (at_builtin; (refine wpList_append_win _ (by rfl) _ _ _ (by rfl) 31 1 24 _ Tryz.underlying44 info_row rfl (by decide) _ _ hs.length _ (by rfl) HLW.out.1 _ _ _ [.slice a3 zs.length c3] (by rfl) (by rfl) (news1 w3 _ _) (by simp [Value.oneCell']) (by decide) (by unfold maxLen; omega) (by omega) ?_); intro v1 w4 hwin1 hfr1 hsz1; obtain ⟨a4, c4, rfl, hc4, hm4⟩ := zS hwin1))
     go_roundw
     case rel =>
      obtain ⟨hn, hL2, hlen, hBw, rx2, hfs, hna, hnb, hrr, hst, hxl, hyl⟩ := HX.out
      obtain ⟨_, hw3, hb3⟩ := HLW.out
      have hs2 : w.heap.size ≤ (wK.alloc (.cells #[.slice (some ⟨bx, ox, none⟩) xs.length cx, .slice (some ⟨by_, oy, none⟩) ys.length cy] 31)).heap.size := Nat.le_trans hBw.size hst.size
      have hb4 : Below w3.heap.size w3 (w3.alloc (.cells #[.slice a3 zs.length c3] 31)) := (Below.refl _ _).alloc (Nat.le_refl _) _
      have hL3 := ((hL2.below hst).below hb3).below hb4
      have hrow := ((RowAt.of_win (zN hw3 (fun i hi => Nat.le_trans hs2 hi)) (by rw [HZS.out]; simp; exact fun h => absurd h rx2.1)).below hb4)
      have hs3 : w.heap.size ≤ (w3.alloc (.cells #[.slice a3 zs.length c3] 31)).heap.size := Nat.le_trans hs2 (Nat.le_trans hb3.size hb4.size)
      have hp := LL.push (ps := [(.slice a3 zs.length c3, zs)]) hL3 (by intro p hp; rw [List.mem_singleton] at hp; subst hp; exact hrow) hs3 (m := 1) rfl hwin1 hfr1
      have hall := ((hst.trans (hb3.mono hst.size)).trans (hb4.mono (Nat.le_trans hst.size hb3.size)))
      refine ⟨k + 1, a4, c4, hs ++ [(.slice a3 zs.length c3, zs)], by go_num, by simp, by omega, ?_, by simpa using hp.1, by simp; omega, (hBw.trans (hall.mono hBw.size)).trans hp.2, ?_⟩
      ·rw [hfs, if_pos (by rw [hna, hnb, ← hrr]), List.map_append, ← List.append_assoc, ← hn, HZS.out]
       simp [nums]
      ·exact (rx2.below hall).keep hL3 hfr1
     case measure => simp [intOf]; omega
end
section
open Go.RowKit Go.Shelf
theorem oneFrom_drop {t : Test} {l : List Ev} {i : Nat} {e : Ev} (h : l[i]? = some e) : oneFrom t (l.drop i) i = (if holdsP t e then [[(i : Int)]] else []) ++ oneFrom t (l.drop (i + 1)) ((i + 1 : Nat) : Int) := by
 obtain ⟨hlt, rfl⟩ := List.getElem?_eq_some_iff.1 h
 rw [List.drop_eq_getElem_cons hlt, oneFrom]
 split <;> rfl
set_option maxHeartbeats 4000000 in
theorem one_any (l : List Ev) (al : Option Addr) (cl : Nat) (op : Int) (t : Test) (n : Int) (v : Value) (w : World) (hr : Rd Ev.cells 5 w (.slice al l.length cl) l) (hl60 : l.length ≤ 60) :
 Calls Tryz.prog 220 #[.slice al l.length cl, .agg #[.int .i64 op, .int .i64 t.src, .int .i64 t.low, .int .i64 t.high, .int .i64 n, v]] w fun e w' => ∃ v' gs, e = .returned v' ∧ nums gs = oneFrom t l 0 ∧ LL w' w.heap.size v' gs ∧ Below w.heap.size w w' := by
 obtain ⟨ts, tl, th⟩ := t
 have HR := zH hr
 clear hr
 go_enter Tryz.func220, Tryz.ntmps220
 go_wp2_with fail
 refine zX (G := fun W => Code.wp _ _ _ _ W) w _ _ fun w2 hb hz hx => ?_
 have b1 : w2.cell? ⟨w.heap.size, 1, none⟩ = some (.int .i64 ts) := zC hx 1
 have b2 : w2.cell? ⟨w.heap.size, 2, none⟩ = some (.int .i64 tl) := zC hx 2
 have b3 : w2.cell? ⟨w.heap.size, 3, none⟩ = some (.int .i64 th) := zC hx 3
 have HB := zH (zA hb (zA b1 (zA b2 b3)))
 have hz2 : w2.heap.size = w.heap.size + 1 := hz
 clear hx hb b1 b2 b3 hz
 go_wp2
 go_loopw [10, 5] (fun i v W => ∃ (m : Nat) (a1 : Option Addr) (c1 : Nat) (gs : List Row), i = .int .i64 m ∧ v = .slice a1 gs.length c1 ∧ m ≤ l.length ∧ nums gs ++ oneFrom ⟨ts, tl, th⟩ (l.drop m) m = oneFrom ⟨ts, tl, th⟩ l 0 ∧ LL W w2.heap.size (.slice a1 gs.length c1) gs ∧ gs.length ≤ m ∧ Below w2.heap.size w2 W) (fun i _ _ => l.length - (intOf i).toNat)
 case atStart => exact ⟨0, none, 0, [], rfl, rfl, by omega, rfl, LL.nil _ _, by simp, Below.refl _ _⟩
 case round =>
  obtain ⟨m, a1, c1, gs, rfl, rfl, hm, hn, hLL, hlen, hB⟩ := hrel
  by_cases hlt : m < l.length
  rotate_left
  ·obtain rfl : m = l.length := by omega
   have HX := zH (zA hn (zA hLL (zA hlen hB)))
   clear hn hLL hlen hB
   go_wp2
   go_ret
   obtain ⟨hn, hLL, hlen, hB⟩ := HX.out
   rw [List.drop_length] at hn
   exact ⟨_, gs, rfl, by simpa [oneFrom] using hn, hLL.mono (by omega), HB.out.1.trans (hB.mono (by omega))⟩
  have hx := List.getElem?_eq_getElem hlt
  generalize l[m] = x at hx
  have hd := oneFrom_drop (t := ⟨ts, tl, th⟩) hx
  obtain ⟨es, id, at_, key, val⟩ := x
  obtain ⟨b, off, rfl, hbl, hc⟩ := rd_at (HR.out.below (HB.out.1.trans (hB.mono (by omega)))) hx
  have q0 : wr.cell? ⟨b, off + m * 5, none⟩ = some (.int .i64 es) := hc 0 _ rfl
  have q1 := hc 1 _ rfl
  have q2 := hc 2 _ rfl
  have q3 := hc 3 _ rfl
  have q4 := hc 4 _ rfl
  have n1 : (m : Int) < (l.length : Int) := by omega
  have hal := fun o => (Below.refl wr.heap.size wr).alloc (Nat.le_refl _) o
  have e1 := fun o => zB (hal o) (zB hB HB.out.2.1)
  have e2 := fun o => zB (hal o) (zB hB HB.out.2.2.1)
  have e3 := fun o => zB (hal o) (zB hB HB.out.2.2.2)
  have HX := zH (zA hn (zA hLL (zA hlen (zA hB (zA hd hal)))))
  have hg60 : gs.length ≤ 60 := by omega
  clear hn hLL hlen hB hd hc hx hal
  obtain ⟨r, hrr⟩ : ∃ r, r = holdsP ⟨ts, tl, th⟩ ⟨es, id, at_, key, val⟩ := ⟨_, rfl⟩
  have hC := fun W => holds_any ⟨ts, tl, th⟩ ⟨es, id, at_, key, val⟩ W
  rw [← hrr] at hC
  have HC := zH hC
  have HRR := zH hrr
  clear hC hrr
  cases r with
  | false =>
   go_wp2_with (go_at_call 156; refine (HC.out _).mono ?_; rintro e w3 ⟨rfl, hb3⟩)
   go_roundw
   case rel =>
    obtain ⟨hn, hLL, hlen, hB, hd, hal⟩ := HX.out
    refine ⟨m + 1, a1, c1, gs, by go_num, rfl, by omega, ?_, (hLL.below (hal _)).below hb3, by omega, hB.trans (((hal _).trans (hb3.mono (hal _).size)).mono hB.size)⟩
    rw [← hn, hd, if_neg (by rw [← HRR.out]; decide)]
    rfl
   case measure => simp [intOf]; omega
  | true =>
   go_wp2_with (first | (go_at_call 156; refine (HC.out _).mono ?_; rintro e w3 ⟨rfl, hb3⟩; have hL3 := (HX.out.2.1.below (HX.out.2.2.2.2.2 _)).below hb3; have hL5 := fun o1 o2 => hL3.below (((Below.refl w3.heap.size w3).alloc (Nat.le_refl _) o1).alloc (by simp) o2); have HL5 := zH (zA hL5 hb3); clear hL3 hL5 hb3) | (at_builtin; (refine wpList_append_win _ (by rfl) _ _ _ (by rfl) 31 1 24 _ Tryz.underlying44 info_row rfl (by decide) _ _ gs.length _ (by rfl) (HL5.out.1 _ _).1 _ _ _ [.slice (some ⟨w3.heap.size, 0, none⟩) 1 1] (by rfl) (by rfl) (news2 w3 _ _ _) (by simp [Value.oneCell']) (by decide) (by unfold maxLen; omega) (by omega) ?_); intro v1 w4 hwin1 hfr1 hsz1; obtain ⟨a4, c4, rfl, hc4, hm4⟩ := zS hwin1))
   go_roundw
   case rel =>
    obtain ⟨hn, hLL, hlen, hB, hd, hal⟩ := HX.out
    obtain ⟨hL5, hb3⟩ := HL5.out
    have h3 := (hal (.cells #[.int .i64 es, .int .i64 id, .int .i64 at_, .int .i64 key, .int .i64 val] 76)).trans (hb3.mono (hal _).size)
    have hBn : Below w2.heap.size w2 w3 := hB.trans (h3.mono hB.size)
    have hb5 : Below w3.heap.size w3 ((w3.alloc (.cells #[.int .i64 m] 3)).alloc (.cells #[.slice (some ⟨w3.heap.size, 0, none⟩) 1 1] 31)) := ((Below.refl w3.heap.size w3).alloc (Nat.le_refl _) _).alloc (by simp) _
    have hb6 : Below (w3.heap.size + 1) (w3.alloc (.cells #[.int .i64 m] 3)) ((w3.alloc (.cells #[.int .i64 m] 3)).alloc (.cells #[.slice (some ⟨w3.heap.size, 0, none⟩) 1 1] 31)) := (Below.refl _ _).alloc (by simp) _
    have hrow : RowAt (w3.alloc (.cells #[.int .i64 m] 3)) w2.heap.size (.slice (some ⟨w3.heap.size, 0, none⟩) 1 1, [(m : Int)]) := by
     refine RowAt.of_win (?_ : WinC _ _ _ _ _ _ _) (by simp)
     exact ⟨rfl, .inr ⟨w3.heap.size, 0, 1, _, rfl, hBn.size, heap_alloc_new w3 _, by simp, by unfold maxLen; omega, by simp, rfl⟩⟩
    have hrow2 := hrow.below (W := (w3.alloc (.cells #[.int .i64 m] 3)).alloc (.cells #[.slice (some ⟨w3.heap.size, 0, none⟩) 1 1] 31)) (by simpa using hb6)
    have hp := LL.push (ps := [(.slice (some ⟨w3.heap.size, 0, none⟩) 1 1, [(m : Int)])]) (hL5 (.cells #[.int .i64 m] 3) (.cells #[.slice (some ⟨w3.heap.size, 0, none⟩) 1 1] 31)) (by intro p hp; rw [List.mem_singleton] at hp; subst hp; exact hrow2) (Nat.le_trans hBn.size hb5.size) (m := 1) rfl hwin1 hfr1
    refine ⟨m + 1, a4, c4, gs ++ [(.slice (some ⟨w3.heap.size, 0, none⟩) 1 1, [(m : Int)])], by go_num, by simp, by omega, ?_, by simpa using hp.1, by simp; omega, (hBn.trans (hb5.mono hBn.size)).trans hp.2⟩
    rw [← hn, hd, if_pos (by rw [← HRR.out])]
    simp [nums]
   case measure => simp [intOf]; omega
end
section
open Go.RowKit Go.Shelf
def Out (w : World) (o : Option (List (List Int))) (e : Ending) (w' : World) : Prop :=
 (∃ v gs, o = some (nums gs) ∧ e = .returned v ∧ LL w' w.heap.size v gs ∧ gs.length ≤ 250000 ∧ Below w.heap.size w w') ∨ (o = none ∧ e = .panicked tooMany ∧ Below w.heap.size w w')
def OutC (l : List Ev) (w : World) (o : Option (List (List Int))) (e : Ending) (w' : World) : Prop :=
 (∃ a gs, o = some (nums gs) ∧ e = .returned (.slice a gs.length gs.length) ∧ LL w' w.heap.size (.slice a gs.length gs.length) gs ∧ gs.length ≤ 200 ∧ (∀ x ∈ nums gs, incI l x) ∧ sortedO ordL (nums gs) ∧ Below w.heap.size w w') ∨ (o = none ∧ e = .panicked tooMany ∧ Below w.heap.size w w')
theorem two_kids {B : Nat} {w : World} {o1 o2 n1 n2 : Int} {t1 t2 : Test} {k1 k2 r : Pats} {v : Value} (h : RdKB B w (.cons o1 t1 n1 k1 (.cons o2 t2 n2 k2 r)) v) :
 ∃ b o c a1 c1 a2 c2, v = .slice (some ⟨b, o, none⟩) (r.len + 1 + 1) c ∧ b < B ∧ r.len + 1 + 1 ≤ c ∧ r.len + 1 + 1 ≤ 9223372036854775807 ∧ RdPs B w r b (o + 6 + 6) ∧
  ((w.cell? ⟨b, o, none⟩ = some (.int .i64 o1) ∧ w.cell? ⟨b, o + 1, none⟩ = some (.int .i64 t1.src) ∧ w.cell? ⟨b, o + 2, none⟩ = some (.int .i64 t1.low) ∧ w.cell? ⟨b, o + 3, none⟩ = some (.int .i64 t1.high) ∧ w.cell? ⟨b, o + 4, none⟩ = some (.int .i64 n1) ∧ w.cell? ⟨b, o + 5, none⟩ = some (.slice a1 k1.len c1)) ∧ RdKB B w k1 (.slice a1 k1.len c1)) ∧
  ((w.cell? ⟨b, o + 6, none⟩ = some (.int .i64 o2) ∧ w.cell? ⟨b, o + 6 + 1, none⟩ = some (.int .i64 t2.src) ∧ w.cell? ⟨b, o + 6 + 2, none⟩ = some (.int .i64 t2.low) ∧ w.cell? ⟨b, o + 6 + 3, none⟩ = some (.int .i64 t2.high) ∧ w.cell? ⟨b, o + 6 + 4, none⟩ = some (.int .i64 n2) ∧ w.cell? ⟨b, o + 6 + 5, none⟩ = some (.slice a2 k2.len c2)) ∧ RdKB B w k2 (.slice a2 k2.len c2)) := by
 obtain ⟨a, c, rfl, h1, h2, h3⟩ := h
 obtain ⟨b, o, rfl, hb, ⟨⟨d0, d1, d2, d3, d4⟩, ⟨a1, c1, d5, g1, g2, g3⟩, ⟨e0, e1, e2, e3, e4⟩, ⟨a2, c2, e5, f1, f2, f3⟩, hr⟩⟩ := h3 (by simp [Pats.len])
 exact ⟨b, o, c, a1, c1, a2, c2, rfl, hb, h1, h2, hr, ⟨⟨d0, d1, d2, d3, d4, d5⟩, a1, c1, rfl, g1, g2, g3⟩, ⟨⟨e0, e1, e2, e3, e4, e5⟩, a2, c2, rfl, f1, f2, f3⟩⟩
theorem three_kids {B : Nat} {w : World} {o1 o2 n1 n2 : Int} {t1 t2 tc : Test} {k1 k2 : Pats} {v : Value} (h : RdKB B w (.cons o1 t1 n1 k1 (.cons 1 tc 0 .nil (.cons o2 t2 n2 k2 .nil))) v) :
 ∃ b o c a1 c1 a3 c3 a2 c2, v = .slice (some ⟨b, o, none⟩) 3 c ∧ b < B ∧ 3 ≤ c ∧ (3 : Nat) ≤ 9223372036854775807 ∧
  ((w.cell? ⟨b, o, none⟩ = some (.int .i64 o1) ∧ w.cell? ⟨b, o + 1, none⟩ = some (.int .i64 t1.src) ∧ w.cell? ⟨b, o + 2, none⟩ = some (.int .i64 t1.low) ∧ w.cell? ⟨b, o + 3, none⟩ = some (.int .i64 t1.high) ∧ w.cell? ⟨b, o + 4, none⟩ = some (.int .i64 n1) ∧ w.cell? ⟨b, o + 5, none⟩ = some (.slice a1 k1.len c1)) ∧ RdKB B w k1 (.slice a1 k1.len c1)) ∧
  (w.cell? ⟨b, o + 6, none⟩ = some (.int .i64 1) ∧ w.cell? ⟨b, o + 6 + 1, none⟩ = some (.int .i64 tc.src) ∧ w.cell? ⟨b, o + 6 + 2, none⟩ = some (.int .i64 tc.low) ∧ w.cell? ⟨b, o + 6 + 3, none⟩ = some (.int .i64 tc.high) ∧ w.cell? ⟨b, o + 6 + 4, none⟩ = some (.int .i64 0) ∧ w.cell? ⟨b, o + 6 + 5, none⟩ = some (.slice a3 Pats.nil.len c3)) ∧
  ((w.cell? ⟨b, o + 6 + 6, none⟩ = some (.int .i64 o2) ∧ w.cell? ⟨b, o + 6 + 6 + 1, none⟩ = some (.int .i64 t2.src) ∧ w.cell? ⟨b, o + 6 + 6 + 2, none⟩ = some (.int .i64 t2.low) ∧ w.cell? ⟨b, o + 6 + 6 + 3, none⟩ = some (.int .i64 t2.high) ∧ w.cell? ⟨b, o + 6 + 6 + 4, none⟩ = some (.int .i64 n2) ∧ w.cell? ⟨b, o + 6 + 6 + 5, none⟩ = some (.slice a2 k2.len c2)) ∧ RdKB B w k2 (.slice a2 k2.len c2)) := by
 obtain ⟨b, o, c, a1, c1, a3, c3, rfl, hb, h1, h2, hr, hA, hC⟩ := two_kids h
 obtain ⟨⟨e0, e1, e2, e3, e4⟩, ⟨a2, c2, e5, f1, f2, f3⟩, _⟩ := hr
 exact ⟨b, o, c, a1, c1, a3, c3, a2, c2, rfl, hb, h1, h2, hA, hC.1, ⟨⟨e0, e1, e2, e3, e4, e5⟩, a2, c2, rfl, f1, f2, f3⟩⟩
theorem step_callp {P : Program} {ops : Array Oper} {o : Oper} {a : Act} {w : World} {K : Act → World → Prop} {Q : Exit → Act → World → Prop} {E : Prop} (hgd : o.guard = none) (f : FuncId) (fargs : Array Operand) (tys : Array TypeId)
 (ho : o.op = .call { callee := .value (.func f), args := fargs, argTypes := tys }) (he : ∀ args w, (callFunc f args).run P w = .ok (.enter f args) w) (args : Array Value) (hargs' : fargs.toList.map a.eval = args.toList)
 {R : Ending → World → Prop} (hc : Calls P f args w R) (h : ∀ e w', R e w' → (∃ v, e = .returned v ∧ K (a.put o.dst v) w') ∨ ∃ c, e = .panicked c ∧ Q (.panic c) a w') :
 if Region.wanted o (yielded ops a.tmps) = true then Oper.wp P o a w K Q else E := by
 have hw : Region.wanted o (yielded ops a.tmps) = true := by simp [Region.wanted, hgd]
 rw [if_pos hw]
 have hev : a.eval (.func f) = .func (.func f) #[] #[] := rfl
 have hargs : fargs.map a.eval = args := by
  apply Array.toList_inj.1
  rw [Array.toList_map]; exact hargs'
 unfold Oper.wp execOp
 simp only [ho, resolve, hev, hargs, Sem.run_bind, Sem.run_pure, Result.andThen_ok]
 simp only [invoke, Array.empty_append, Array.append_empty]
 simp [go_sem, he]
 refine hc.mono ?_
 intro e w' hr
 rcases h e w' hr with ⟨v, rfl, hk⟩ | ⟨c, rfl, hk⟩
 ·exact hk
 ·exact hk
theorem LL.rdC {w : World} {lo : Nat} {v : Value} {gs : List Row} (h : LL w lo v gs) : RdC 1 w v gs.length (gs.flatMap rowC) := by
 obtain ⟨h1, h2⟩ := h
 refine ⟨by rw [flat_len row_len], fun u hu => ?_, ?_⟩
 ·obtain ⟨p, hp, hu⟩ := List.mem_flatMap.1 hu
  obtain ⟨_, ⟨_, a, c, e, _⟩, _⟩ := h2 p hp
  simp only [rowC, List.mem_singleton] at hu
  subst hu
  rw [e]; rfl
 ·obtain ⟨_, a, c, e, hc⟩ := win_rd row_len h1
  refine ⟨a, c, e, fun hp => ?_⟩
  subst e
  obtain ⟨b, off, rfl, hlt, hr⟩ := hc hp
  exact ⟨b, off, rfl, hlt, fun j u hu => winC_cells h1 j u hu⟩
end
section
open Go.RowKit
section
variable {P : Program} {md : Region.Mode} {ops : Array Oper} {Q : Exit → Act → World → Prop} {S : World → Prop}
theorem skipW (skip : List Nat) {i : Nat} {oi : Oper} {fuel : Nat} {listed : List Bool} {a : Act} {w w' : World} (hn : nxt skip listed 0 = i) (hi : ops[i]? = some oi) (hr : Region.ready md ops listed.toArray = [i])
 (hw : Region.wanted oi (yielded ops a.tmps) = true) (hrun : (execOp a.eval oi).run P w = .ok .skip w') (hS : S w') (h : S w' → wpAnyH P md ops Q S fuel (listed.set i true).toArray (a.put oi.dst undef) w') : wpAnyH P md ops Q S (fuel + 1) listed.toArray a w := by
 refine wpAnyH_ready hr (by simp) (AllReadyH.cons hi (fun K hK => ?_) AllReadyH.nil)
 rw [if_pos hw]
 unfold Oper.wp
 rw [hrun]
 exact hK.out _ _ hS (fun hS => by rw [List.setIfInBounds_toArray]; exact h hS)
theorem skipA (skip : List Nat) {i : Nat} {oi : Oper} {fuel : Nat} {listed l' : List Bool} {a a' : Act} {w w' : World}
 (hn : nxt skip listed 0 = i := by simp only [nxt, List.contains_cons, List.contains_nil, Bool.or_false, Bool.or_self, Bool.true_or, cond_true, cond_false, Nat.zero_add, Nat.reduceAdd, Nat.reduceBEq, Bool.false_or]; rfl)
 (hi : ops[i]? = some oi := by rfl) (hr : Region.ready md ops listed.toArray = [i] := by kernel_rfl) (hw : Region.wanted oi (yielded ops a.tmps) = true := by rfl)
 (hrun : (execOp a.eval oi).run P w = .ok .skip w' := by first | (go_simp; done) | (go_simp; with_reducible rfl)) (hp : a.put oi.dst undef = a' := by simp only [Act.put, List.getElem_toArray, List.getElem_cons_zero, List.getElem_cons_succ, List.setIfInBounds_toArray, List.set_cons_zero, List.set_cons_succ]; rfl) (hl : listed.set i true = l' := by simp only [List.set_cons_zero, List.set_cons_succ]; rfl)
 (hS : S w') (h : S w' → wpAnyH P md ops Q S fuel l'.toArray a' w') : wpAnyH P md ops Q S (fuel + 1) listed.toArray a w := by
 subst hp; subst hl
 exact skipW skip hn hi hr hw hrun hS h
end
end
section
open Go.RowKit Go.Shelf
def edgeC (e : Edge) : List Value := [.int .i64 e.from_, .int .i64 e.to_, .int .i64 e.n, .bool e.lack, .int .i64 e.t.src, .int .i64 e.t.low, .int .i64 e.t.high]
theorem edge_len (e : Edge) : (edgeC e).length = 7 := rfl
theorem edge_one (e : Edge) : ∀ u ∈ edgeC e, u.oneCell' = true := by simp [edgeC, Value.oneCell']
theorem test_one (e : Test) : ∀ u ∈ e.cells, u.oneCell' = true := by simp [Test.cells, Value.oneCell']
def IntsAt (w : World) (v : Value) (xs : List Int) : Prop := Rd intC 1 w v xs ∧ ∀ i, some i = v.ownBlock → ∃ cur q, w.heap[i]? = some (.cells cur 3 q)
theorem IntsAt.below {w W : World} {v : Value} {xs : List Int} (h : IntsAt w v xs) (hb : Below w.heap.size w W) : IntsAt W v xs :=
 ⟨h.1.below hb, fun i hi => by
  obtain ⟨cur, q, hg⟩ := h.2 i hi
  exact ⟨cur, q, (hb.block i (Array.getElem?_eq_some_iff.1 hg).1).trans hg⟩⟩
structure MkAt (w : World) (M lo : Nat) (v1 v2 : Value) (ts : List Test) (es : List Edge) : Prop where
 at_ : w.heap[M]? = some (.cells #[v1, v2] 118 (0, 0))
 lo_ : lo ≤ M
 tests : Win Test.cells 3 24 w v1 (fun i => lo ≤ i) ts
 follow : Win edgeC 7 123 w v2 (fun i => lo ≤ i) es
structure Grown (w w' : World) (M : Nat) (v1 v2 v1' v2' : Value) : Prop where
 fr : Fr (fun i => i = M ∨ some i = v1.ownBlock ∨ some i = v2.ownBlock) w w'
 own1 : ∀ i, some i = v1'.ownBlock → some i = v1.ownBlock ∨ w.heap.size ≤ i
 own2 : ∀ i, some i = v2'.ownBlock → some i = v2.ownBlock ∨ w.heap.size ≤ i
theorem Grown.refl (w : World) (M : Nat) (v1 v2 : Value) : Grown w w M v1 v2 v1 v2 := ⟨fr_refl _ _, fun _ h => .inl h, fun _ h => .inl h⟩
theorem Grown.trans {w w1 w2 : World} {M : Nat} {v1 v2 u1 u2 x1 x2 : Value} (h : Grown w w1 M v1 v2 u1 u2) (g : Grown w1 w2 M u1 u2 x1 x2) : Grown w w2 M v1 v2 x1 x2 := by
 have hs := h.fr.size
 refine ⟨zT h.fr g.fr fun i hi hT => ?_, fun i hi => ?_, fun i hi => ?_⟩
 ·rcases hT with hT | hT | hT
  ·exact .inl hT
  ·rcases h.own1 i hT with h1 | h1
   ·exact .inr (.inl h1)
   ·omega
  ·rcases h.own2 i hT with h1 | h1
   ·exact .inr (.inr h1)
   ·omega
 ·rcases g.own1 i hi with h1 | h1
  ·exact h.own1 i h1
  ·exact .inr (by omega)
 ·rcases g.own2 i hi with h1 | h1
  ·exact h.own2 i h1
  ·exact .inr (by omega)
theorem Grown.below {w w1 : World} {M : Nat} {v1 v2 u1 u2 : Value} (h : Below w.heap.size w w1) (g : ∀ i, some i = v1.ownBlock → i < w.heap.size) (g2 : ∀ i, some i = v2.ownBlock → i < w.heap.size) : Grown w w1 M v1 v2 v1 v2 := ⟨zF h, fun _ h => .inl h, fun _ h => .inl h⟩
theorem MkAt.below {w W : World} {M lo : Nat} {v1 v2 : Value} {ts : List Test} {es : List Edge} (h : MkAt w M lo v1 v2 ts es) (hb : Below w.heap.size w W) : MkAt W M lo v1 v2 ts es :=
 ⟨(hb.block M (Array.getElem?_eq_some_iff.1 h.at_).1).trans h.at_, h.lo_, zM h.tests (zF (S := fun _ => False) hb) (fun _ _ h => h), zM h.follow (zF (S := fun _ => False) hb) (fun _ _ h => h)⟩
theorem win_own_type {α : Type} {enc : α → List Value} {k e : Nat} {w : World} {v : Value} {S : Nat → Prop} {xs : List α} (h : Win enc k e w v S xs) : ∀ i, some i = v.ownBlock → S i ∧ ∃ cur, w.heap[i]? = some (.cells cur e (0, 0)) := by
 intro i hi
 rcases h.2 with ⟨rfl, _⟩ | ⟨b, off, c, cur, rfl, hS, hg, _⟩
 ·simp [Value.ownBlock] at hi
 ·have e : i = b := by simpa [Value.ownBlock] using hi
  subst e
  exact ⟨hS, cur, hg⟩
theorem IntsAt.apart {w : World} {M lo : Nat} {v1 v2 v : Value} {ts : List Test} {es : List Edge} {xs : List Int} (h : MkAt w M lo v1 v2 ts es) (hx : IntsAt w v xs) : ∀ i, some i = v.ownBlock → ¬ (i = M ∨ some i = v1.ownBlock ∨ some i = v2.ownBlock) := by
 intro i hi hn
 obtain ⟨cur, q, hg⟩ := hx.2 i hi
 rcases hn with rfl | hn | hn
 ·rw [h.at_] at hg; injection hg with hg; injection hg with _ hg; exact absurd hg (by decide)
 ·obtain ⟨_, cur', hg'⟩ := win_own_type h.tests i hn
  rw [hg'] at hg; injection hg with hg; injection hg with _ hg; exact absurd hg (by decide)
 ·obtain ⟨_, cur', hg'⟩ := win_own_type h.follow i hn
  rw [hg'] at hg; injection hg with hg; injection hg with _ hg; exact absurd hg (by decide)
theorem IntsAt.grow {w w' : World} {M lo : Nat} {v1 v2 v v1' v2' : Value} {ts : List Test} {es : List Edge} {xs : List Int} (hx : IntsAt w v xs) (h : MkAt w M lo v1 v2 ts es) (g : Grown w w' M v1 v2 v1' v2') : IntsAt w' v xs :=
 ⟨rd_move hx.1 g.fr (hx.apart h), fun i hi => by
  obtain ⟨cur, q, hg⟩ := hx.2 i hi
  exact ⟨cur, q, (g.fr.block i (Array.getElem?_eq_some_iff.1 hg).1 (hx.apart h i hi)).trans hg⟩⟩
theorem Grown.lo {w w' : World} {M lo : Nat} {v1 v2 v1' v2' : Value} {ts : List Test} {es : List Edge} (g : Grown w w' M v1 v2 v1' v2') (h : MkAt w M lo v1 v2 ts es) (hlo : lo ≤ w.heap.size) : Below lo w w' :=
 zO g.fr hlo fun i hi => by
  rcases hi with rfl | hi | hi
  ·exact h.lo_
  ·exact (win_own_type h.tests i hi).1
  ·exact (win_own_type h.follow i hi).1
end
section
open Go.RowKit
section
variable {P : Program} {ops : Array Oper} {Q : Exit → Act → World → Prop} {md : Region.Mode} {S : World → Prop} {L : Nat}
def wpAnyL (P : Program) (md : Region.Mode) (ops : Array Oper) (Q : Exit → Act → World → Prop) (S : World → Prop) (L : Nat) : Nat → Array Bool → Act → World → Prop
 | 0, listed, a, w => Region.ready md ops listed = [] ∧ Q .normal a w
 | fuel + 1, listed, a, w =>
  (Region.ready md ops listed = [] → Q .normal a w) ∧
  ∀ i ∈ Region.ready md ops listed, wpOp P ops Q i (fun a' w' => (i ≠ L → S w') ∧ wpAnyL P md ops Q S L fuel (listed.setIfInBounds i true) a' w') a w
theorem wpAny_of_L : ∀ (fuel : Nat) (listed : Array Bool) (a : Act) (w : World), wpAnyL P md ops Q S L fuel listed a w → wpAny P md ops Q fuel listed a w
 | 0, _, _, _, h => h
 | fuel + 1, _, _, _, h => ⟨h.1, fun i hi => wpOp_mono (fun a' w' h' => wpAny_of_L fuel _ a' w' h'.2) (h.2 i hi)⟩
theorem wpAnyL_first {i : Nat} {oi oL : Oper} {v : Value} (hi : ops[i]? = some oi) (hL : ops[L]? = some oL) (hwait : ∃ e ∈ oL.after, Region.binds md e = true ∧ e.on = i) (hsel : ∀ (j : Nat) (o : Oper) cs b, ops[j]? = some o → o.op ≠ .select cs b)
 (hQ : ∀ c a w, Q (.panic c) (a.put oi.dst v) w → Q (.panic c) a w) :
 ∀ (fuel : Nat) (listed : Array Bool) (a : Act) (w : World),
  (∀ j oj, ops[j]? = some oj → j ≠ i → listed.getD j true = false → (∀ e ∈ oj.after, Region.binds md e = true → e.on ≠ i) → oi.apart ops oj = true) →
  i ∈ Region.ready md ops listed → YieldsIf P ops S oi v a → S w →
  wpAnyL P md ops Q S L fuel (listed.setIfInBounds i true) (a.put oi.dst v) w → wpAnyL P md ops Q S L (fuel + 1) listed a w := by
 intro fuel
 induction fuel with
 | zero =>
  intro listed a w _ hr hy hS H
  refine ⟨fun h => (by rw [h] at hr; cases hr), fun j hj => ?_⟩
  by_cases hji : j = i
  ·subst hji; exact hy.wpOp hi hS ⟨fun _ => hS, H⟩
  ·have := ready_mono hj hji
   rw [H.1] at this
   cases this
 | succ fuel ih =>
  intro listed a w hfree hr hy hS H
  refine ⟨fun h => (by rw [h] at hr; cases hr), fun j hj => ?_⟩
  by_cases hji : j = i
  ·subst hji; exact hy.wpOp hi hS ⟨fun _ => hS, H⟩
  ·have h1 := H.2 j (ready_mono hj hji)
   obtain ⟨hjun, oj, hoj, hall⟩ := mem_ready.1 hj
   have hnot : ∀ e ∈ oj.after, Region.binds md e = true → e.on ≠ i := fun e he hb heq => by
    have h1 := hall e he hb
    have h0 := (mem_ready.1 hr).1
    rw [heq] at h1
    rcases Nat.lt_or_ge i listed.size with h' | h'
    ·simp [h'] at h0 h1; rw [h0] at h1; cases h1
    ·simp [Array.getElem?_eq_none h'] at h1
   have hjL : j ≠ L := fun h => by
    subst h
    rw [hL] at hoj
    injection hoj with hoj
    subst hoj
    obtain ⟨e, he, hb, hon⟩ := hwait
    exact hnot e he hb hon
   have h2 := wpOp_putIf hoj (hfree j oj hoj hji hjun hnot) (fun cs b => hsel i oi cs b hi) (fun cs b => hsel j oj cs b hoj) hQ hy h1
   have hfree' : ∀ k ok, ops[k]? = some ok → k ≠ i → (listed.setIfInBounds j true).getD k true = false →
    (∀ e ∈ ok.after, Region.binds md e = true → e.on ≠ i) → oi.apart ops ok = true := fun k ok hk hki hun hno => by
    refine hfree k ok hk hki ?_ hno
    by_cases hjk : j = k
    ·subst hjk; exact hjun
    ·rw [getD_set_ne true hjk] at hun; exact hun
   refine wpOp_mono (fun a' w' h3 => ⟨fun _ => h3.2.1 hjL, ih (listed.setIfInBounds j true) a' w' hfree' (ready_mono hr (Ne.symm hji)) h3.1 (h3.2.1 hjL) ?_⟩) h2
   rw [Array.setIfInBounds_comm _ _ hji]
   exact h3.2.2
def waitsFor (md : Region.Mode) (ops : Array Oper) (L i : Nat) : Bool := match ops[L]? with | some o => o.after.any fun e => Region.binds md e && e.on == i | none => false
theorem waits_spec {i : Nat} (h : waitsFor md ops L i = true) : ∃ oL, ops[L]? = some oL ∧ ∃ e ∈ oL.after, Region.binds md e = true ∧ e.on = i := by
 unfold waitsFor at h
 split at h
 ·rename_i o ho
  refine ⟨o, ho, ?_⟩
  rw [Array.any_eq_true] at h
  obtain ⟨k, hk, hb⟩ := h
  rw [Bool.and_eq_true, beq_iff_eq] at hb
  exact ⟨o.after[k], Array.getElem_mem hk, hb.1, hb.2⟩
 ·cases h
theorem take1L (skip : List Nat) {i : Nat} {oi : Oper} {v : Value} {fuel : Nat} {listed : List Bool} {a : Act} {w : World} (hn : nxt skip listed 0 = i) (hi : ops[i]? = some oi)
 (hs : Region.noSelect ops = true) (hwt : waitsFor md ops L i = true) (hf : Region.free md ops listed.toArray i = true) (hr : (Region.ready md ops listed.toArray).contains i = true)
 (hQ : ∀ c a w, Q (.panic c) (a.put oi.dst v) w → Q (.panic c) a w) (hy : YieldsIf P ops S oi v a) (hS : S w)
 (h : wpAnyL P md ops Q S L fuel (listed.set i true).toArray (a.put oi.dst v) w) : wpAnyL P md ops Q S L (fuel + 1) listed.toArray a w := by
 obtain ⟨oL, hL, hw⟩ := waits_spec hwt
 exact wpAnyL_first hi hL hw (Region.noSelect_spec hs) hQ fuel _ a w (Region.free_spec hi hf) (by simpa using hr) hy hS (by simpa using h)
theorem wp_region_takesL (n L : Nat) {ls : List Bool} {id : Nat} {a : Act} {w : World} (hm : P.follows .mixedOrders = true) (hn : ops.size = n) (hl : List.replicate n false = ls) (hS : S w.drew)
 (h : S w.drew → wpAnyL P .any ops Q S L n ls.toArray a w.drew) : (Code.region id ops true).wp P Q a w := by
 subst hn; subst hl
 exact wp_region_any hm (wpAny_of_L _ _ _ _ (by simpa using h hS))
theorem wpAnyL_done {listed : Array Bool} {a : Act} {w : World} (hr : Region.ready md ops listed = []) (h : Q .normal a w) : ∀ fuel, wpAnyL P md ops Q S L fuel listed a w
 | 0 => ⟨hr, h⟩
 | _ + 1 => ⟨fun _ => h, by rw [hr]; simp⟩
theorem aloneL {i : Nat} {oi : Oper} {fuel : Nat} {listed : List Bool} {a : Act} {w : World} (hi : ops[i]? = some oi) (hr : Region.ready md ops listed.toArray = [i])
 (h : ∀ K : Act → World → Prop, (∀ a' w', (i ≠ L → S w') → wpAnyL P md ops Q S L fuel (listed.set i true).toArray a' w' → K a' w') → if Region.wanted oi (yielded ops a.tmps) = true then Oper.wp P oi a w K Q else K (a.put oi.dst undef) w) : wpAnyL P md ops Q S L (fuel + 1) listed.toArray a w := by
 refine ⟨fun h0 => absurd (hr ▸ h0) (by simp), fun j hj => ?_⟩
 rw [hr] at hj
 obtain rfl : j = i := by simpa using hj
 exact wpOp_step hi (fun K' hK => h K' (fun a' w' h1 h2 => hK a' w' ⟨h1, by simpa using h2⟩))
theorem runL (skip : List Nat) {i : Nat} {oi : Oper} {v : Value} {fuel : Nat} {listed : List Bool} {a : Act} {w w' : World} (hn : nxt skip listed 0 = i) (hi : ops[i]? = some oi) (hr : Region.ready md ops listed.toArray = [i])
 (hw : Region.wanted oi (yielded ops a.tmps) = true) (hrun : (execOp a.eval oi).run P w = .ok (.value v) w') (hS : S w') (h : S w' → wpAnyL P md ops Q S L fuel (listed.set i true).toArray (a.put oi.dst v) w') : wpAnyL P md ops Q S L (fuel + 1) listed.toArray a w := by
 refine aloneL hi hr fun K hK => ?_
 rw [if_pos hw]
 unfold Oper.wp
 rw [hrun]
 exact hK _ _ (fun _ => hS) (h hS)
theorem lastL (skip : List Nat) {i : Nat} {oi : Oper} {fuel : Nat} {listed : List Bool} {a : Act} {w w' : World} (hn : nxt skip listed 0 = i) (hi : ops[i]? = some oi) (hr : Region.ready md ops listed.toArray = [i]) (hiL : i = L)
 (hw : Region.wanted oi (yielded ops a.tmps) = true) (hrun : (execOp a.eval oi).run P w = .ok .skip w') (h : wpAnyL P md ops Q S L fuel (listed.set i true).toArray (a.put oi.dst undef) w') : wpAnyL P md ops Q S L (fuel + 1) listed.toArray a w := by
 refine aloneL hi hr fun K hK => ?_
 rw [if_pos hw]
 unfold Oper.wp
 rw [hrun]
 exact hK _ _ (fun h => absurd hiL h) h
theorem appendL (skip : List Nat) {i : Nat} {oi : Oper} {fuel : Nat} {listed : List Bool} {a : Act} {w : World} {s x : Operand} {t : TypeId} {v xv : Value} {R : Value → World → Prop} (hn : nxt skip listed 0 = i) (hi : ops[i]? = some oi) (hr : Region.ready md ops listed.toArray = [i])
 (hw : Region.wanted oi (yielded ops a.tmps) = true) (ho : oi.op = .call { callee := .builtin .append, args := #[s, x], argTypes := #[t, t] }) (hs : a.eval s = v) (hx : a.eval x = xv) (hc : ∃ v' w', (Builtin.append_ #[t, t] oi.type #[v, xv]).run P w = .ok v' w' ∧ R v' w')
 (h : ∀ v' w', R v' w' → S w' ∧ (S w' → wpAnyL P md ops Q S L fuel (listed.set i true).toArray (a.put oi.dst v') w')) : wpAnyL P md ops Q S L (fuel + 1) listed.toArray a w := by
 refine aloneL hi hr fun K hK => ?_
 rw [if_pos hw]
 obtain ⟨v', w', hrun, hR⟩ := hc
 obtain ⟨h1, h2⟩ := h v' w' hR
 unfold Oper.wp execOp
 simp only [ho, resolve, invoke, builtin, Sem.run_bind, Sem.run_pure, Result.andThen_ok, List.map_toArray, List.map_cons, List.map_nil, hs, hx, hrun]
 exact hK _ _ (fun _ => h1) (h2 h1)
theorem callL (skip : List Nat) {i : Nat} {oi : Oper} {fuel : Nat} {listed : List Bool} {a : Act} {w : World} {f : FuncId} {fargs : Array Operand} {tys : Array TypeId} {args : Array Value} {R : Ending → World → Prop}
 (hn : nxt skip listed 0 = i) (hi : ops[i]? = some oi) (hr : Region.ready md ops listed.toArray = [i]) (ho : oi.op = .call { callee := .value (.func f), args := fargs, argTypes := tys })
 (hw : Region.wanted oi (yielded ops a.tmps) = true) (he : ∀ args w, (callFunc f args).run P w = .ok (.enter f args) w) (hc : Calls P f args w R) (hargs : fargs.toList.map a.eval = args.toList)
 (h : ∀ e w', R e w' → (∃ v, e = .returned v ∧ S w' ∧ (S w' → wpAnyL P md ops Q S L fuel (listed.set i true).toArray (a.put oi.dst v) w')) ∨ ∃ c, e = .panicked c ∧ Q (.panic c) a w') : wpAnyL P md ops Q S L (fuel + 1) listed.toArray a w := by
 refine aloneL hi hr fun K hK => ?_
 rw [if_pos hw]
 have hev : a.eval (.func f) = .func (.func f) #[] #[] := rfl
 have hargs2 : fargs.map a.eval = args := by
  apply Array.toList_inj.1
  rw [Array.toList_map]; exact hargs
 unfold Oper.wp execOp
 simp only [ho, resolve, hev, hargs2, Sem.run_bind, Sem.run_pure, Result.andThen_ok]
 simp only [invoke, Array.empty_append, Array.append_empty]
 simp [go_sem, he]
 refine hc.mono ?_
 intro e w' hr'
 rcases h e w' hr' with ⟨v, rfl, h1, h2⟩ | ⟨c, rfl, h1⟩
 ·exact hK _ _ (fun _ => h1) (h2 h1)
 ·exact h1
theorem takeLA (skip : List Nat) {i : Nat} {oi : Oper} {v : Value} {fuel : Nat} {listed l' : List Bool} {a a' : Act} {w : World}
 (hn : nxt skip listed 0 = i := by simp only [nxt, List.contains_cons, List.contains_nil, Bool.or_false, Bool.or_self, Bool.true_or, cond_true, cond_false, Nat.zero_add, Nat.reduceAdd, Nat.reduceBEq, Bool.false_or]; rfl)
 (hi : ops[i]? = some oi := by rfl) (hs : Region.noSelect ops = true := by kernel_rfl) (hwt : waitsFor md ops L i = true := by kernel_rfl) (hf : Region.free md ops listed.toArray i = true := by kernel_rfl) (hr : (Region.ready md ops listed.toArray).contains i = true := by kernel_rfl)
 (hy : YieldsIf P ops S oi v a := by first | (refine Or.inr ⟨by rfl, ?_⟩; rfl) | (refine Or.inl ⟨by rfl, ?_⟩; intro w hSw; (try dsimp only at hSw); go_simp; done) | (refine Or.inl ⟨by rfl, ?_⟩; intro w hSw; (try dsimp only at hSw); go_simp; with_reducible rfl))
 (hp : a.put oi.dst v = a' := by simp only [Act.put, List.getElem_toArray, List.getElem_cons_zero, List.getElem_cons_succ, List.setIfInBounds_toArray, List.set_cons_zero, List.set_cons_succ]; rfl) (hl : listed.set i true = l' := by simp only [List.set_cons_zero, List.set_cons_succ]; rfl) (hS : S w := by assumption)
 (hQ : ∀ c a w, Q (.panic c) (a.put oi.dst v) w → Q (.panic c) a w := by exact fun _ _ _ h => h) (h : wpAnyL P md ops Q S L fuel l'.toArray a' w) : wpAnyL P md ops Q S L (fuel + 1) listed.toArray a w := by
 subst hp; subst hl
 exact take1L skip hn hi hs hwt hf hr hQ hy hS h
theorem normLA {fuel : Nat} {l l' : List Bool} {a a' : Act} {w : World} (hp : a = a' := by simp only [Act.put, List.getElem_toArray, List.getElem_cons_zero, List.getElem_cons_succ, List.setIfInBounds_toArray, List.set_cons_zero, List.set_cons_succ]; rfl) (hl : l = l' := by simp only [List.set_cons_zero, List.set_cons_succ]; rfl) (h : wpAnyL P md ops Q S L fuel l'.toArray a' w) : wpAnyL P md ops Q S L fuel l.toArray a w := by
 subst hp; subst hl; exact h
theorem callLA (skip : List Nat) {i : Nat} {oi : Oper} {fuel : Nat} {listed : List Bool} {a : Act} {w : World} {f : FuncId} {fargs : Array Operand} {tys : Array TypeId} {args : Array Value} {R : Ending → World → Prop}
 (hn : nxt skip listed 0 = i := by simp only [nxt, List.contains_cons, List.contains_nil, Bool.or_false, Bool.or_self, Bool.true_or, cond_true, cond_false, Nat.zero_add, Nat.reduceAdd, Nat.reduceBEq, Bool.false_or]; rfl)
 (hi : ops[i]? = some oi := by rfl) (hr : Region.ready md ops listed.toArray = [i] := by kernel_rfl) (ho : oi.op = .call { callee := .value (.func f), args := fargs, argTypes := tys } := by rfl) (hw : Region.wanted oi (yielded ops a.tmps) = true := by rfl)
 (he : ∀ args w, (callFunc f args).run P w = .ok (.enter f args) w) (hc : Calls P f args w R) (hargs : fargs.toList.map a.eval = args.toList)
 (h : ∀ e w', R e w' → (∃ v, e = .returned v ∧ S w' ∧ (S w' → wpAnyL P md ops Q S L fuel (listed.set i true).toArray (a.put oi.dst v) w')) ∨ ∃ c, e = .panicked c ∧ Q (.panic c) a w') : wpAnyL P md ops Q S L (fuel + 1) listed.toArray a w :=
 callL skip hn hi hr ho hw he hc hargs h
theorem runLA (skip : List Nat) {i : Nat} {oi : Oper} {v : Value} {fuel : Nat} {listed l' : List Bool} {a a' : Act} {w w' : World}
 (hn : nxt skip listed 0 = i := by simp only [nxt, List.contains_cons, List.contains_nil, Bool.or_false, Bool.or_self, Bool.true_or, cond_true, cond_false, Nat.zero_add, Nat.reduceAdd, Nat.reduceBEq, Bool.false_or]; rfl)
 (hi : ops[i]? = some oi := by rfl) (hr : Region.ready md ops listed.toArray = [i] := by kernel_rfl) (hw : Region.wanted oi (yielded ops a.tmps) = true := by rfl)
 (hrun : (execOp a.eval oi).run P w = .ok (.value v) w' := by first | (go_simp; done) | (go_simp; with_reducible rfl) | (go_simp; constructor <;> with_reducible rfl)) (hp : a.put oi.dst v = a' := by simp only [Act.put, List.getElem_toArray, List.getElem_cons_zero, List.getElem_cons_succ, List.setIfInBounds_toArray, List.set_cons_zero, List.set_cons_succ]; rfl) (hl : listed.set i true = l' := by simp only [List.set_cons_zero, List.set_cons_succ]; rfl)
 (hS : S w') (h : S w' → wpAnyL P md ops Q S L fuel l'.toArray a' w') : wpAnyL P md ops Q S L (fuel + 1) listed.toArray a w := by
 subst hp; subst hl
 exact runL skip hn hi hr hw hrun hS h
theorem lastA (skip : List Nat) {i : Nat} {oi : Oper} {fuel : Nat} {listed l' : List Bool} {a a' : Act} {w w' : World}
 (hn : nxt skip listed 0 = i := by simp only [nxt, List.contains_cons, List.contains_nil, Bool.or_false, Bool.or_self, Bool.true_or, cond_true, cond_false, Nat.zero_add, Nat.reduceAdd, Nat.reduceBEq, Bool.false_or]; rfl)
 (hi : ops[i]? = some oi := by rfl) (hr : Region.ready md ops listed.toArray = [i] := by kernel_rfl) (hiL : i = L := by rfl) (hw : Region.wanted oi (yielded ops a.tmps) = true := by rfl)
 (hrun : (execOp a.eval oi).run P w = .ok .skip w' := by first | (go_simp; done) | (go_simp; with_reducible rfl)) (hp : a.put oi.dst undef = a' := by simp only [Act.put, List.getElem_toArray, List.getElem_cons_zero, List.getElem_cons_succ, List.setIfInBounds_toArray, List.set_cons_zero, List.set_cons_succ]; rfl) (hl : listed.set i true = l' := by simp only [List.set_cons_zero, List.set_cons_succ]; rfl) (h : wpAnyL P md ops Q S L fuel l'.toArray a' w') : wpAnyL P md ops Q S L (fuel + 1) listed.toArray a w := by
 subst hp; subst hl
 exact lastL skip hn hi hr hiL hw hrun h
end
end
section
open Go.RowKit Go.Shelf
theorem info_edge : (Tryz.prog.info? 123).map (fun i => (i.zero, i.size, i.bytes)) = some (some (.agg #[.int .i64 0, .int .i64 0, .int .i64 0, .bool false, .int .i64 0, .int .i64 0, .int .i64 0]), 7, 56) := by kernel_rfl
theorem info_test : (Tryz.prog.info? 24).map (fun i => (i.zero, i.size, i.bytes)) = some (some (.agg #[.int .i64 0, .int .i64 0, .int .i64 0]), 3, 24) := by kernel_rfl
theorem flat_take {α : Type} (f : Int → List α) {fs : List Int} {m : Nat} {x : Int} (h : fs[m]? = some x) : (fs.take (m + 1)).flatMap f = (fs.take m).flatMap f ++ f x := by
 rw [List.take_add_one, h, List.flatMap_append]; simp
theorem map_take {α : Type} (f : Int → α) {fs : List Int} {m : Nat} {x : Int} (h : fs[m]? = some x) : (fs.take (m + 1)).map f = (fs.take m).map f ++ [f x] := by
 rw [List.take_add_one, h, List.map_append]; simp
abbrev linkP1 (e : Edge) (x y : Int) : Edge := ⟨x, y, e.n, e.lack, e.t⟩
theorem linked_len {fs tos : List Int} (hf : fs.length ≤ 12) (ht : tos.length ≤ 12) (e : Edge) (m : Nat) : ((fs.take m).flatMap fun x => tos.map (linkP1 e x)).length ≤ 144 := by
 have h : ∀ l : List Int, (l.flatMap fun x => tos.map (linkP1 e x)).length = l.length * tos.length := by
  intro l
  induction l with
  | nil => simp
  | cons x l ih => rw [List.flatMap_cons, List.length_append, ih, List.length_map, List.length_cons, Nat.add_mul]; omega
 rw [h]
 have h1 : (fs.take m).length ≤ 12 := by rw [List.length_take]; omega
 exact Nat.le_trans (Nat.mul_le_mul h1 ht) (by decide)
theorem MkAt.form2 {w : World} {M lo : Nat} {v1 v2 : Value} {ts : List Test} {es : List Edge} (h : MkAt w M lo v1 v2 ts es) : ∃ a c, v2 = .slice a es.length c := by
 obtain ⟨a, c, e, _⟩ := zS h.follow
 exact ⟨a, c, e⟩
theorem winC_away {k e : Nat} {w W : World} {v : Value} {S T : Nat → Prop} {n : Nat} {cs : List Value} (h : WinC k e w v S n cs) (hf : Fr T w W) (hT : ∀ i, some i = v.ownBlock → ¬ T i) : WinC k e W v S n cs :=
 zN (zM (winC_block h) hf fun i hi => hT i hi.1) fun i hi => hi.2.1
theorem MkAt.away {w W : World} {M lo : Nat} {v1 v2 : Value} {ts : List Test} {es : List Edge} {S : Nat → Prop} (h : MkAt w M lo v1 v2 ts es) (hf : Fr S w W) (h0 : ¬ S M) (h1 : ∀ i, some i = v1.ownBlock → ¬ S i) (h2 : ∀ i, some i = v2.ownBlock → ¬ S i) : MkAt W M lo v1 v2 ts es :=
 ⟨(hf.block M (Array.getElem?_eq_some_iff.1 h.at_).1 h0).trans h.at_, h.lo_, winC_away h.tests hf h1, winC_away h.follow hf h2⟩
theorem Grown.new {w W W1 : World} {M : Nat} {v1 v2 u1 u2 : Value} {S : Nat → Prop} (g : Grown w W M v1 v2 u1 u2) (hf : Fr S W W1) (hS : ∀ i, S i → w.heap.size ≤ i) : Grown w W1 M v1 v2 u1 u2 :=
 ⟨zT g.fr hf fun i hi h => absurd (hS i h) (by omega), g.own1, g.own2⟩
theorem MkAt.push {W W1 W2 : World} {M lo : Nat} {v1 v2 v' : Value} {ts : List Test} {es : List Edge} {e : Edge} (h : MkAt W M lo v1 v2 ts es) (hlo : lo ≤ W.heap.size)
 (hw : WinC 7 123 W1 v' (fun i => (lo ≤ i ∧ i < W.heap.size) ∨ i = W.heap.size) (es.length + 1) (es.flatMap edgeC ++ edgeC e)) (hf : Fr (fun i => some i = v2.ownBlock) W W1) (h2 : W2 = W1.setCell ⟨M, 1, none⟩ v') (hne : M ≠ W.heap.size) :
 MkAt W2 M lo v1 v' ts (es ++ [e]) ∧ Fr (fun i => i = M ∨ some i = v1.ownBlock ∨ some i = v2.ownBlock) W W2 := by
 have hM := h.at_
 have hMl : M < W.heap.size := (Array.getElem?_eq_some_iff.1 hM).1
 have hM1 : W1.heap[M]? = some (.cells #[v1, v2] 118 (0, 0)) := (hf.block M hMl fun hi => by
  obtain ⟨_, cur, hg⟩ := win_own_type h.follow M hi
  rw [hM] at hg; injection hg with hg; injection hg with _ hg; exact absurd hg (by decide)).trans hM
 have hs := setCell_blk (o := 1) hM1 v'
 rw [← h2] at hs
 have hfs : Fr (fun i => i = M) W1 W2 := by rw [h2]; exact fr_setCell W1 ⟨M, 1, none⟩ v'
 have hd1 : ∀ i, some i = v1.ownBlock → ¬ (some i = v2.ownBlock) := fun i hi h2 => by
  obtain ⟨_, cur, hg⟩ := win_own_type h.tests i hi
  obtain ⟨_, cur', hg'⟩ := win_own_type h.follow i h2
  rw [hg'] at hg; injection hg with hg; injection hg with _ hg; exact absurd hg (by decide)
 have hd2 : ∀ i, some i = v1.ownBlock → ¬ i = M := fun i hi h2 => by
  obtain ⟨_, cur, hg⟩ := win_own_type h.tests i hi
  rw [h2, hM] at hg; injection hg with hg; injection hg with _ hg; exact absurd hg (by decide)
 have ht1 := winC_away (winC_away h.tests hf hd1) hfs hd2
 have hw2 : Win edgeC 7 123 W2 v' (fun i => lo ≤ i) (es ++ [e]) := by
  refine (?_ : WinC _ _ _ _ _ _ _)
  rw [List.length_append, List.flatMap_append]
  have hob := winC_ob hw
  refine zN (winC_away (cs := es.flatMap edgeC ++ [e].flatMap edgeC) (by simpa using hw) hfs fun i hi h3 => ?_) fun i hi => by omega
  subst h3
  rcases hw.2 with ⟨e0, _⟩ | ⟨g, o, c, cur, e0, _, hg, _⟩
  ·rw [e0] at hi; simp [Value.ownBlock] at hi
  ·rw [e0] at hi
   have : i = g := by simpa [Value.ownBlock] using hi
   subst this
   rw [hM1] at hg; injection hg with hg; injection hg with _ hg; exact absurd hg (by decide)
 exact ⟨⟨hs, h.lo_, ht1, hw2⟩, zT (fr_mono hf fun i hi => .inr (.inr hi)) hfs fun i _ hi => .inl hi⟩
theorem rdC_box (w : World) (cs : Array Value) (T k : Nat) (hk : cs.size = k) (h1 : ∀ u ∈ cs.toList, u.oneCell' = true) : RdC k (w.alloc (.cells cs T)) (.slice (some ⟨w.heap.size, 0, none⟩) 1 1) 1 cs.toList := by
 refine ⟨by simp [hk], h1, _, _, rfl, fun _ => ⟨w.heap.size, 0, rfl, by simp, fun j u hu => ?_⟩⟩
 rw [Nat.zero_add, World.cell?_alloc_new]
 simpa using hu
set_option maxHeartbeats 16000000 in
theorem link_any (M lo : Nat) (v1 v2 vf vt : Value) (ts : List Test) (es : List Edge) (fs tos : List Int) (e : Edge) (w : World) (h : MkAt w M lo v1 v2 ts es) (hf : IntsAt w vf fs) (ht : IntsAt w vt tos) (hfl : fs.length ≤ 12) (htl : tos.length ≤ 12) (hes : es.length ≤ 10000) :
 Calls Tryz.prog 140 #[.pointer (some ⟨M, 0, none⟩), vf, vt, .agg (edgeA e)] w fun e' w' => e' = .returned (.tuple #[]) ∧ ∃ v2', MkAt w' M lo v1 v2' ts (es ++ fs.flatMap fun x => tos.map (linkP1 e x)) ∧ Grown w w' M v1 v2 v1 v2' := by
 obtain ⟨af, cf, rfl⟩ : ∃ a c, vf = .slice a fs.length c := by obtain ⟨⟨_, a, c, h, _⟩, _⟩ := hf; exact ⟨a, c, h⟩
 obtain ⟨at_, ct, rfl⟩ : ∃ a c, vt = .slice a tos.length c := by obtain ⟨⟨_, a, c, h, _⟩, _⟩ := ht; exact ⟨a, c, h⟩
 have HH := zH (zA h (zA hf ht))
 have hlen := fun m => linked_len hfl htl e m
 have HLEN := zH hlen
 obtain ⟨ef, et, en, el, ⟨es0, elo, ehi⟩⟩ := e
 have hMl : M < w.heap.size := (Array.getElem?_eq_some_iff.1 h.at_).1
 have hlo := h.lo_
 have hbx := fun o => (Below.refl w.heap.size w).alloc (Nat.le_refl _) o
 have HBX := zH hbx
 clear h hf ht hlen hbx
 go_enter Tryz.func140, Tryz.ntmps140
 go_wp2
 go_loopw [10] (fun i W => ∃ (m : Nat) (v2' : Value) (f0 t0 : Int), i = .int .i64 m ∧ m ≤ fs.length ∧ MkAt W M lo v1 v2' ts (es ++ (fs.take m).flatMap fun x => tos.map (linkP1 ⟨ef, et, en, el, ⟨es0, elo, ehi⟩⟩ x)) ∧ Grown w W M v1 v2 v1 v2' ∧ W.heap[w.heap.size]? = some (.cells #[.int .i64 f0, .int .i64 t0, .int .i64 en, .bool el, .int .i64 es0, .int .i64 elo, .int .i64 ehi] 123 (0, 0)) ∧ (∀ i, some i = v2'.ownBlock → i ≠ w.heap.size)) (fun i _ => fs.length - (intOf i).toNat)
 case atStart =>
  refine ⟨0, v2, ef, et, rfl, by omega, by simpa using HH.out.1.below (HBX.out _), ⟨zF (HBX.out _), fun _ h => .inl h, fun _ h => .inl h⟩, heap_alloc_new w _, fun i hi => ?_⟩
  have := (winC_ob HH.out.1.follow i hi).2
  omega
 case round =>
  obtain ⟨m, v2', f0, t0, rfl, hm, hMk, hG, hE, hne⟩ := hrel
  by_cases hlt : m < fs.length
  rotate_left
  ·obtain rfl : m = fs.length := by omega
   rw [List.take_length] at hMk
   have HX := zH (zA hMk hG)
   clear hMk hG hE hne
   go_wp2
   go_end0
   exact ⟨rfl, v2', HX.out.1, HX.out.2⟩
  have hx := List.getElem?_eq_getElem hlt
  generalize fs[m] = x at hx
  have hfr := HH.out.2.1.grow HH.out.1 hG
  obtain ⟨b, off, rfl, _, hc⟩ := rd_at hfr.1 hx
  have q0 : wr.cell? ⟨b, off + m, none⟩ = some (.int .i64 x) := by have := hc 0 _ rfl; simpa using this
  have c0 : wr.cell? ⟨w.heap.size, 0, none⟩ = some (.int .i64 f0) := zC hE 0
  have g0 := zK hE 0
  have n1 : (m : Int) < (fs.length : Int) := by omega
  have hft := flat_take (fun x => tos.map (linkP1 ⟨ef, et, en, el, ⟨es0, elo, ehi⟩⟩ x)) hx
  have hE1 := setCell_blk (o := 0) hE (.int .i64 x)
  have hfs := fr_setCell wr ⟨w.heap.size, 0, none⟩ (.int .i64 x)
  obtain ⟨W1, hW1⟩ : ∃ W1, W1 = wr.setCell ⟨w.heap.size, 0, none⟩ (.int .i64 x) := ⟨_, rfl⟩
  rw [← hW1] at hE1 hfs
  have hsz1 := hfs.size
  have hEM : ¬ M = w.heap.size := by omega
  have hv1 : ∀ i, some i = v1.ownBlock → ¬ i = w.heap.size := fun i hi => by have := (winC_ob HH.out.1.tests i hi).2; omega
  have hMk1 := hMk.away hfs hEM hv1 hne
  have hG1 := hG.new hfs fun i hi => by have h : i = w.heap.size := hi; omega
  have HX := zH (zA hMk1 (zA hG1 (zA hE1 (zA hne (zA hv1 hft)))))
  have HW1 := zH hW1
  clear hfr hc hx hft hfs hMk hG hE hE1 hMk1 hG1 hne hv1 hW1
  go_wp2
  rw [← HW1.out]
  go_loopw [17] (fun j W => ∃ (k : Nat) (v2' : Value) (t0 : Int), j = .int .i64 k ∧ k ≤ tos.length ∧ MkAt W M lo v1 v2' ts ((es ++ (fs.take m).flatMap fun x => tos.map (linkP1 ⟨ef, et, en, el, ⟨es0, elo, ehi⟩⟩ x)) ++ (tos.take k).map (linkP1 ⟨ef, et, en, el, ⟨es0, elo, ehi⟩⟩ x)) ∧ Grown w W M v1 v2 v1 v2' ∧ W.heap[w.heap.size]? = some (.cells #[.int .i64 x, .int .i64 t0, .int .i64 en, .bool el, .int .i64 es0, .int .i64 elo, .int .i64 ehi] 123 (0, 0)) ∧ (∀ i, some i = v2'.ownBlock → i ≠ w.heap.size)) (fun j _ => tos.length - (intOf j).toNat)
  case atStart => exact ⟨0, v2', t0, rfl, by omega, by simpa using HX.out.1, HX.out.2.1, HX.out.2.2.1, HX.out.2.2.2.1⟩
  case round =>
   obtain ⟨k, v3, t1, rfl, hk, hMk, hG, hE, hne⟩ := hrel
   by_cases hlt2 : k < tos.length
   rotate_left
   ·obtain rfl : k = tos.length := by omega
    rw [List.take_length] at hMk
    have HY := zH (zA hMk (zA hG (zA hE hne)))
    clear hMk hG hE hne
    go_wp2
    go_roundw
    case rel => exact ⟨m + 1, v3, x, t1, by go_num, by omega, by rw [HX.out.2.2.2.2.2, ← List.append_assoc]; exact HY.out.1, HY.out.2.1, HY.out.2.2.1, HY.out.2.2.2⟩
    case measure => simp [intOf]; omega
   have hy := List.getElem?_eq_getElem hlt2
   generalize tos[k] = y at hy
   have htr := HH.out.2.2.grow HH.out.1 hG
   obtain ⟨b2, off2, rfl, _, hc⟩ := rd_at htr.1 hy
   have q1 : wr.cell? ⟨b2, off2 + k, none⟩ = some (.int .i64 y) := by have := hc 0 _ rfl; simpa using this
   have c1 : wr.cell? ⟨w.heap.size, 1, none⟩ = some (.int .i64 t1) := zC hE 1
   have g1 := zK hE 1
   have n2 : (k : Int) < (tos.length : Int) := by omega
   have hmt := map_take (linkP1 ⟨ef, et, en, el, ⟨es0, elo, ehi⟩⟩ x) hy
   have hE2 := setCell_blk (o := 1) hE (.int .i64 y)
   have hfs := fr_setCell wr ⟨w.heap.size, 1, none⟩ (.int .i64 y)
   obtain ⟨W2, hW2⟩ : ∃ W2, W2 = wr.setCell ⟨w.heap.size, 1, none⟩ (.int .i64 y) := ⟨_, rfl⟩
   rw [← hW2] at hE2 hfs
   have hMk2 := hMk.away hfs hEM HX.out.2.2.2.2.1 hne
   have hG2 := hG.new hfs fun i hi => by have h : i = w.heap.size := hi; omega
   have hWs : w.heap.size < W2.heap.size := (Array.getElem?_eq_some_iff.1 hE2).1
   obtain ⟨a3, c3, e3⟩ := hMk2.form2
   have m0 := zC hMk2.at_ 1
   rw [e3] at m0
   have d0 : W2.cell? ⟨w.heap.size, 0, none⟩ = some (.int .i64 x) := zC hE2 0
   have d1 : W2.cell? ⟨w.heap.size, 1, none⟩ = some (.int .i64 y) := zC hE2 1
   have d2 : W2.cell? ⟨w.heap.size, 2, none⟩ = some (.int .i64 en) := zC hE2 2
   have d3 : W2.cell? ⟨w.heap.size, 3, none⟩ = some (.bool el) := zC hE2 3
   have d4 : W2.cell? ⟨w.heap.size, 4, none⟩ = some (.int .i64 es0) := zC hE2 4
   have d5 : W2.cell? ⟨w.heap.size, 5, none⟩ = some (.int .i64 elo) := zC hE2 5
   have d6 : W2.cell? ⟨w.heap.size, 6, none⟩ = some (.int .i64 ehi) := zC hE2 6
   obtain ⟨en1, hen1⟩ : ∃ z, z = ((es ++ (fs.take m).flatMap fun x => tos.map (linkP1 ⟨ef, et, en, el, ⟨es0, elo, ehi⟩⟩ x)) ++ (tos.take k).map (linkP1 ⟨ef, et, en, el, ⟨es0, elo, ehi⟩⟩ x)) := ⟨_, rfl⟩
   rw [← hen1] at hMk2 e3 m0
   have hel : en1.length ≤ 11000 := by
    have h1 := HLEN.out m
    have h2 : (tos.take k).length ≤ 12 := by rw [List.length_take]; omega
    rw [hen1, List.length_append, List.length_append, List.length_map]
    omega
   have HY := zH (zA hMk2 (zA hG2 (zA hE2 (zA hne (zA hmt hen1)))))
   have HW2 := zH hW2
   clear htr hc hy hmt hfs hMk hG hE hE2 hMk2 hG2 hne hW2 hen1
   subst e3
   go_wp2
   rw [← HW2.out]
   obtain ⟨i0, hi0, hz0⟩ := Option.map_eq_some_iff.1 info_edge
   simp only [Prod.mk.injEq] at hz0
   have HI := zH (zA hi0 hz0)
   clear hi0 hz0
   have hb3 := fun o => ((Below.refl W2.heap.size W2).alloc (Nat.le_refl _) o).drew
   have HB3 := zH hb3
   clear hb3
   have hS : ∀ W : World, (∀ i, i < W2.heap.size → i = M ∨ i = w.heap.size → W.heap[i]? = W2.heap[i]?) → W.cell? ⟨M, 1, none⟩ = some (.slice a3 en1.length c3) ∧ W.cell? ⟨w.heap.size, 0, none⟩ = some (.int .i64 x) ∧ W.cell? ⟨w.heap.size, 1, none⟩ = some (.int .i64 y) ∧ W.cell? ⟨w.heap.size, 2, none⟩ = some (.int .i64 en) ∧ W.cell? ⟨w.heap.size, 3, none⟩ = some (.bool el) ∧ W.cell? ⟨w.heap.size, 4, none⟩ = some (.int .i64 es0) ∧ W.cell? ⟨w.heap.size, 5, none⟩ = some (.int .i64 elo) ∧ W.cell? ⟨w.heap.size, 6, none⟩ = some (.int .i64 ehi) := fun W hW => by
    have h1 := (hW M (by omega) (.inl rfl)).trans HY.out.1.at_
    have h2 := (hW w.heap.size hWs (.inr rfl)).trans HY.out.2.2.1
    exact ⟨zC h1 1, zC h2 0, zC h2 1, zC h2 2, zC h2 3, zC h2 4, zC h2 5, zC h2 6⟩
   have HS := zH hS
   clear hS m0 d0 d1 d2 d3 d4 d5 d6
   refine wp_region_takesL 11 10 (S := fun W => W.cell? ⟨M, 1, none⟩ = some (.slice a3 en1.length c3) ∧ W.cell? ⟨w.heap.size, 0, none⟩ = some (.int .i64 x) ∧ W.cell? ⟨w.heap.size, 1, none⟩ = some (.int .i64 y) ∧ W.cell? ⟨w.heap.size, 2, none⟩ = some (.int .i64 en) ∧ W.cell? ⟨w.heap.size, 3, none⟩ = some (.bool el) ∧ W.cell? ⟨w.heap.size, 4, none⟩ = some (.int .i64 es0) ∧ W.cell? ⟨w.heap.size, 5, none⟩ = some (.int .i64 elo) ∧ W.cell? ⟨w.heap.size, 6, none⟩ = some (.int .i64 ehi)) (by kernel_rfl) (by kernel_rfl) rfl (HS.out _ fun i _ _ => rfl) (fun hHeld => ?_)
   try simp only [List.reduceReplicate]
   repeat refine takeLA [6, 7, 8, 9, 10] (h := ?_)
   refine runLA [] (hS := by exact HS.out _ fun i hi _ => (HB3.out _).block i hi) (h := fun hHeld => ?_)
   generalize hW3 : World.drew (World.alloc _ _) = W3 at hHeld ⊢
   have hb3 := HB3.out (.cells #[.int .i64 x, .int .i64 y, .int .i64 en, .bool el, .int .i64 es0, .int .i64 elo, .int .i64 ehi] 123)
   have hrd : RdC 7 (W2.alloc _).drew _ 1 _ := rdC_box W2 #[.int .i64 x, .int .i64 y, .int .i64 en, .bool el, .int .i64 es0, .int .i64 elo, .int .i64 ehi] 123 7 rfl (edge_one ⟨x, y, en, el, ⟨es0, elo, ehi⟩⟩)
   rw [hW3] at hb3 hrd
   have hMk3 := HY.out.1.below hb3
   have hs3 := hb3.size
   have hap := run_append_rd (P := Tryz.prog) W3 32 32 123 i0 _ 7 56 Tryz.underlying32 HI.out.1 HI.out.2.1 HI.out.2.2.1 HI.out.2.2.2 rfl (by decide) _ _ en1.length _ (winC_block hMk3.follow) _ 1 _ hrd (by unfold maxLen; omega) (by omega)
   have hsM : ¬ M = W3.heap.size := by omega
   have H3 := zH (zA hMk3 (zA hb3 hs3))
   have HAP := zH hap
   clear hb3 hrd hMk3 hs3 hap
   refine appendL [] (i := ?_) (oi := ?_) (s := ?_) (x := ?_) (t := ?_) (v := ?_) (xv := ?_) (R := ?_) ?_ ?_ ?_ ?_ ?_ ?_ ?_ ?_ ?_
   rotate_left 8
   ·simp only [nxt, List.contains_cons, List.contains_nil, Bool.or_false, Bool.or_self, Bool.true_or, cond_true, cond_false, Nat.zero_add, Nat.reduceAdd, Nat.reduceBEq, Bool.false_or]; rfl
   ·rfl
   ·kernel_rfl
   ·rfl
   ·rfl
   ·rfl
   ·rfl
   ·exact HAP.out
   rintro v4 w4 ⟨hwin4, hfr4, hsz4⟩
   obtain ⟨a4, c4, rfl, _, _⟩ := zS hwin4
   have hMl3 : M < W3.heap.size := by have := H3.out.2.2; omega
   have hM4 : w4.heap[M]? = some (.cells #[v1, .slice a3 en1.length c3] 118 (0, 0)) := (hfr4.block M hMl3 fun hi => by
    obtain ⟨_, cur, hg⟩ := win_own_type H3.out.1.follow M hi
    rw [H3.out.1.at_] at hg; injection hg with hg; injection hg with _ hg; exact absurd hg (by decide)).trans H3.out.1.at_
   have hE4 : w4.heap[w.heap.size]? = W2.heap[w.heap.size]? := (hfr4.block _ (by have := H3.out.2.2; omega) fun hi => HY.out.2.2.2.1 _ hi rfl).trans (H3.out.2.1.block _ hWs)
   refine ⟨HS.out _ fun i hi h => ?_, fun hHeld => ?_⟩
   ·rcases h with rfl | rfl
    ·exact hM4.trans HY.out.1.at_.symm
    ·exact hE4
   simp only [Act.put, List.getElem_toArray, List.getElem_cons_zero, List.getElem_cons_succ, List.setIfInBounds_toArray, List.set_cons_zero, List.set_cons_succ]
   have m4 := zC hM4 1
   have g4 := zK hM4 1
   have hp := H3.out.1.push (W2 := w4.setCell ⟨M, 1, none⟩ (.slice a4 (en1.length + 1) c4)) (e := ⟨x, y, en, el, ⟨es0, elo, ehi⟩⟩) (by have := H3.out.2.2; omega) (zN hwin4 fun i hi => hi.imp (fun h => ⟨h.1.2.1, h.2⟩) id) hfr4 rfl hsM
   have hob4 : ∀ i, some i = (Value.slice a4 (en1.length + 1) c4).ownBlock → some i = (Value.slice a3 en1.length c3).ownBlock ∨ W2.heap.size ≤ i := fun i hi => (winC_ob hwin4 i hi).1.imp (fun h => h.1.1) (fun h => by have := H3.out.2.2; omega)
   have H4 := zH (zA hp hob4)
   clear hwin4 hfr4 hMl3 hM4 hE4 hp hob4
   refine runLA [] (hS := by assumption) (h := fun hHeld => ?_)
   refine runLA [] (hS := by assumption) (h := fun hHeld => ?_)
   refine lastA [] (h := ?_)
   refine wpAnyL_done (by kernel_rfl) ?_ _
   go_wp2
   go_roundw
   case rel =>
    obtain ⟨hMk2, hG2, hE2, hne, hmt, hen1⟩ := HY.out
    obtain ⟨⟨hp1, hp2⟩, hob4⟩ := H4.out
    obtain ⟨hMk3, hb3, hs3⟩ := H3.out
    have hG3 : Grown W2 (w4.setCell ⟨M, 1, none⟩ (.slice a4 (en1.length + 1) c4)) M v1 (.slice a3 en1.length c3) v1 (.slice a4 (en1.length + 1) c4) := by
     refine ⟨zT (zF hb3) hp2 fun i _ h => h, fun _ h => .inl h, fun i hi => ?_⟩
     rcases hob4 i hi with h | h
     ·exact .inl h
     ·exact .inr h
    refine ⟨k + 1, _, y, by go_num, by omega, by rw [hmt, ← List.append_assoc, ← hen1]; exact hp1, hG2.trans hG3, ?_, ?_⟩
    ·exact ((zT (zF hb3) hp2 fun i _ h => h).block w.heap.size hWs (by
      rintro (h | h | h)
      ·exact hEM h.symm
      ·exact HX.out.2.2.2.2.1 _ h rfl
      ·exact hne _ h rfl)).trans hE2
    ·intro i hi h
     rcases hob4 i hi with h1 | h1
     ·exact hne i h1 h
     ·omega
   case measure => simp [intOf]; omega
end
section
open Go.RowKit Go.Shelf
def EndsR (M lo : Nat) (v1 v2 : Value) (ts : List Test) (es : List Edge) (au : Auto) (w : World) (e : Ending) (w' : World) : Prop :=
 ∃ vf vl v1' v2', e = .returned (.tuple #[vf, vl]) ∧ IntsAt w' vf au.first ∧ IntsAt w' vl au.last ∧ MkAt w' M lo v1' v2' (ts ++ au.tests) (es ++ au.follow) ∧ Grown w w' M v1 v2 v1' v2'
theorem MkAt.form1 {w : World} {M lo : Nat} {v1 v2 : Value} {ts : List Test} {es : List Edge} (h : MkAt w M lo v1 v2 ts es) : ∃ a c, v1 = .slice a ts.length c := by
 obtain ⟨a, c, e, _⟩ := zS h.tests
 exact ⟨a, c, e⟩
theorem MkAt.lt {w : World} {M lo : Nat} {v1 v2 : Value} {ts : List Test} {es : List Edge} (h : MkAt w M lo v1 v2 ts es) : M < w.heap.size := (Array.getElem?_eq_some_iff.1 h.at_).1
theorem MkAt.pushT {W W1 W2 : World} {M lo : Nat} {v1 v2 v' : Value} {ts : List Test} {es : List Edge} {t : Test} (h : MkAt W M lo v1 v2 ts es) (hlo : lo ≤ W.heap.size)
 (hw : WinC 3 24 W1 v' (fun i => (lo ≤ i ∧ i < W.heap.size) ∨ i = W.heap.size) (ts.length + 1) (ts.flatMap Test.cells ++ t.cells)) (hf : Fr (fun i => some i = v1.ownBlock) W W1) (h2 : W2 = W1.setCell ⟨M, 0, none⟩ v') (hne : M ≠ W.heap.size) :
 MkAt W2 M lo v' v2 (ts ++ [t]) es ∧ Fr (fun i => i = M ∨ some i = v1.ownBlock ∨ some i = v2.ownBlock) W W2 := by
 have hM := h.at_
 have hMl : M < W.heap.size := (Array.getElem?_eq_some_iff.1 hM).1
 have hM1 : W1.heap[M]? = some (.cells #[v1, v2] 118 (0, 0)) := (hf.block M hMl fun hi => by
  obtain ⟨_, cur, hg⟩ := win_own_type h.tests M hi
  rw [hM] at hg; injection hg with hg; injection hg with _ hg; exact absurd hg (by decide)).trans hM
 have hs := setCell_blk (o := 0) hM1 v'
 rw [← h2] at hs
 have hfs : Fr (fun i => i = M) W1 W2 := by rw [h2]; exact fr_setCell W1 ⟨M, 0, none⟩ v'
 have hd1 : ∀ i, some i = v2.ownBlock → ¬ (some i = v1.ownBlock) := fun i hi h2 => by
  obtain ⟨_, cur, hg⟩ := win_own_type h.follow i hi
  obtain ⟨_, cur', hg'⟩ := win_own_type h.tests i h2
  rw [hg'] at hg; injection hg with hg; injection hg with _ hg; exact absurd hg (by decide)
 have hd2 : ∀ i, some i = v2.ownBlock → ¬ i = M := fun i hi h2 => by
  obtain ⟨_, cur, hg⟩ := win_own_type h.follow i hi
  rw [h2, hM] at hg; injection hg with hg; injection hg with _ hg; exact absurd hg (by decide)
 have ht1 := winC_away (winC_away h.follow hf hd1) hfs hd2
 have hw2 : Win Test.cells 3 24 W2 v' (fun i => lo ≤ i) (ts ++ [t]) := by
  refine (?_ : WinC _ _ _ _ _ _ _)
  rw [List.length_append, List.flatMap_append]
  have hob := winC_ob hw
  refine zN (winC_away (cs := ts.flatMap Test.cells ++ [t].flatMap Test.cells) (by simpa using hw) hfs fun i hi h3 => ?_) fun i hi => by omega
  subst h3
  rcases hw.2 with ⟨e0, _⟩ | ⟨g, o, c, cur, e0, _, hg, _⟩
  ·rw [e0] at hi; simp [Value.ownBlock] at hi
  ·rw [e0] at hi
   have : i = g := by simpa [Value.ownBlock] using hi
   subst this
   rw [hM1] at hg; injection hg with hg; injection hg with _ hg; exact absurd hg (by decide)
 exact ⟨⟨hs, h.lo_, hw2, ht1⟩, zT (fr_mono hf fun i hi => .inr (.inl hi)) hfs fun i _ hi => .inl hi⟩
theorem IntsAt.one (w : World) (z : Int) : IntsAt (w.alloc (.cells #[.int .i64 z] 3)) (.slice (some ⟨w.heap.size, 0, none⟩) 1 1) [z] := by
 refine ⟨win_rd (e := 3) (S := fun _ => True) intC_len (?_ : WinC _ _ _ _ _ _ _), fun i hi => ?_⟩
 ·exact ⟨rfl, .inr ⟨w.heap.size, 0, 1, _, rfl, trivial, heap_alloc_new w _, by simp, by unfold maxLen; omega, by simp, rfl⟩⟩
 ·have e : i = w.heap.size := by simpa [Value.ownBlock] using hi
  subst e
  exact ⟨_, _, heap_alloc_new w _⟩
set_option maxHeartbeats 16000000 in
theorem ends_one (M lo : Nat) (v1 v2 v : Value) (ts : List Test) (es : List Edge) (t : Test) (n : Int) (w : World) (h : MkAt w M lo v1 v2 ts es) (hts : ts.length ≤ 100) :
 Calls Tryz.prog 77 #[.pointer (some ⟨M, 0, none⟩), .agg (patA ⟨1, t, n, .nil⟩ v)] w (EndsR M lo v1 v2 ts es (makeP (.one t) ts.length) w) := by
 obtain ⟨t0, tl, th⟩ := t
 have hMl := h.lt
 have hlo := h.lo_
 obtain ⟨a1, c1, e1⟩ := h.form1
 subst e1
 have HH := zH h
 clear h
 go_enter Tryz.func77, Tryz.ntmps77
 go_wp2_with fail
 refine zX (G := fun W => Code.wp _ _ _ _ W) w _ _ fun W2 hb hz hx => ?_
 have hMk2 := HH.out.below hb
 have hG2 : Grown w W2 M (.slice a1 ts.length c1) v2 (.slice a1 ts.length c1) v2 := (Grown.refl _ _ _ _).new (zF (S := fun i => w.heap.size ≤ i) hb) fun i hi => hi
 obtain ⟨i0, hi0, hz0⟩ := Option.map_eq_some_iff.1 info_test
 simp only [Prod.mk.injEq] at hz0
 have HI := zH (zA hi0 hz0)
 have HB3 := zH (fun o => ((Below.refl W2.heap.size W2).alloc (Nat.le_refl _) o).drew)
 have hS : ∀ W : World, (∀ i, i < W2.heap.size → i = M ∨ i = w.heap.size → W.heap[i]? = W2.heap[i]?) → W.cell? ⟨M, 0, none⟩ = some (.slice a1 ts.length c1) ∧ W.cell? ⟨w.heap.size, 1, none⟩ = some (.int .i64 t0) ∧ W.cell? ⟨w.heap.size, 2, none⟩ = some (.int .i64 tl) ∧ W.cell? ⟨w.heap.size, 3, none⟩ = some (.int .i64 th) := fun W hW => by
  have h1 := (hW M (by omega) (.inl rfl)).trans hMk2.at_
  have h2 := (hW w.heap.size (by omega) (.inr rfl)).trans hx
  exact ⟨zC h1 0, zC h2 1, zC h2 2, zC h2 3⟩
 have HS := zH hS
 have HY := zH (zA hMk2 (zA hG2 (zA hx (zA hb hz))))
 have HZ := zH hz
 clear hS hMk2 hG2 hi0 hz0 hx hb hz
 refine wp_region_takesL 12 11 (S := fun W => W.cell? ⟨M, 0, none⟩ = some (.slice a1 ts.length c1) ∧ W.cell? ⟨w.heap.size, 1, none⟩ = some (.int .i64 t0) ∧ W.cell? ⟨w.heap.size, 2, none⟩ = some (.int .i64 tl) ∧ W.cell? ⟨w.heap.size, 3, none⟩ = some (.int .i64 th)) (by kernel_rfl) (by kernel_rfl) rfl (HS.out _ fun i _ _ => rfl) (fun hHeld => ?_)
 try simp only [List.reduceReplicate]
 repeat refine takeLA [7, 8, 9, 10, 11] (h := ?_)
 refine runLA [] (hS := by exact HS.out _ fun i hi _ => (HB3.out _).block i hi) (h := fun hHeld => ?_)
 generalize hW3 : World.drew (World.alloc _ _) = W3 at hHeld ⊢
 have hb3 := HB3.out (.cells #[.int .i64 t0, .int .i64 tl, .int .i64 th] 24)
 have hrd : RdC 3 (W2.alloc _).drew _ 1 _ := rdC_box W2 #[.int .i64 t0, .int .i64 tl, .int .i64 th] 24 3 rfl (test_one ⟨t0, tl, th⟩)
 rw [hW3] at hb3 hrd
 have hMk3 := HY.out.1.below hb3
 have hs3 := hb3.size
 have hap := run_append_rd (P := Tryz.prog) W3 30 30 24 i0 _ 3 24 Tryz.underlying30 HI.out.1 HI.out.2.1 HI.out.2.2.1 HI.out.2.2.2 rfl (by decide) _ _ ts.length _ (winC_block hMk3.tests) _ 1 _ hrd (by unfold maxLen; omega) (by have hz' := HZ.out; omega)
 have hsM : ¬ M = W3.heap.size := by have hz' := HZ.out; omega
 have H3 := zH (zA hMk3 (zA hb3 hs3))
 have HAP := zH hap
 clear hb3 hrd hMk3 hap
 refine appendL [] (i := ?_) (oi := ?_) (s := ?_) (x := ?_) (t := ?_) (v := ?_) (xv := ?_) (R := ?_) ?_ ?_ ?_ ?_ ?_ ?_ ?_ ?_ ?_
 rotate_left 8
 ·simp only [nxt, List.contains_cons, List.contains_nil, Bool.or_false, Bool.or_self, Bool.true_or, cond_true, cond_false, Nat.zero_add, Nat.reduceAdd, Nat.reduceBEq, Bool.false_or]; rfl
 ·rfl
 ·kernel_rfl
 ·rfl
 ·rfl
 ·rfl
 ·rfl
 ·exact HAP.out
 rintro v4 w4 ⟨hwin4, hfr4, hsz4⟩
 obtain ⟨a4, c4, rfl, _, _⟩ := zS hwin4
 have hMl3 : M < W3.heap.size := by have hz' := HZ.out; omega
 have hM4 : w4.heap[M]? = some (.cells #[.slice a1 ts.length c1, v2] 118 (0, 0)) := (hfr4.block M hMl3 fun hi => by
  obtain ⟨_, cur, hg⟩ := win_own_type H3.out.1.tests M hi
  rw [H3.out.1.at_] at hg; injection hg with hg; injection hg with _ hg; exact absurd hg (by decide)).trans H3.out.1.at_
 have hE4 : w4.heap[w.heap.size]? = W2.heap[w.heap.size]? := (hfr4.block _ (by have hz' := HZ.out; omega) fun hi => by have := (winC_ob HH.out.tests _ hi).2; omega).trans (H3.out.2.1.block _ (by have hz' := HZ.out; omega))
 refine ⟨HS.out _ fun i hi h => ?_, fun hHeld => ?_⟩
 ·rcases h with rfl | rfl
  ·exact hM4.trans HY.out.1.at_.symm
  ·exact hE4
 simp only [Act.put, List.getElem_toArray, List.getElem_cons_zero, List.getElem_cons_succ, List.setIfInBounds_toArray, List.set_cons_zero, List.set_cons_succ]
 have m4 := zC hM4 0
 have g4 := zK hM4 0
 have hp := H3.out.1.pushT (W2 := w4.setCell ⟨M, 0, none⟩ (.slice a4 (ts.length + 1) c4)) (t := ⟨t0, tl, th⟩) (by have hz' := HZ.out; omega) (zN hwin4 fun i hi => hi.imp (fun h => ⟨h.1.2.1, h.2⟩) id) hfr4 rfl hsM
 have hob4 : ∀ i, some i = (Value.slice a4 (ts.length + 1) c4).ownBlock → some i = (Value.slice a1 ts.length c1).ownBlock ∨ W2.heap.size ≤ i := fun i hi => (winC_ob hwin4 i hi).1.imp (fun h => h.1.1) (fun h => by have hz' := HZ.out; omega)
 have H4 := zH (zA hp hob4)
 obtain ⟨w5, hw5⟩ : ∃ w5, w5 = w4.setCell ⟨M, 0, none⟩ (.slice a4 (ts.length + 1) c4) := ⟨_, rfl⟩
 have m5 := zC hp.1.at_ 0
 rw [← hw5] at m5 H4
 have HW5 := zH hw5
 clear hwin4 hfr4 hMl3 hM4 hE4 hp hob4 hw5
 refine runLA [] (hS := by assumption) (h := fun hHeld => ?_)
 refine runLA [] (hS := by assumption) (h := fun hHeld => ?_)
 refine lastA [] (h := ?_)
 refine wpAnyL_done (by kernel_rfl) ?_ _
 rw [← HW5.out]
 have hwl : IntKind.i64.wrap (((ts.length + 1 : Nat) : Int) - 1) = (ts.length : Int) := by rw [Go.IntWalk.i64_in _ (by have hz' := HZ.out; omega)]; omega
 go_wp2
 go_ret2
 obtain ⟨⟨hp1, hp2⟩, hob4⟩ := H4.out
 have hb6 : Below w5.heap.size w5 (w5.alloc (.cells #[.int .i64 ts.length] 3)) := (Below.refl _ _).alloc (Nat.le_refl _) _
 refine ⟨_, _, .slice a4 (ts.length + 1) c4, v2, rfl, IntsAt.one w5 ts.length, IntsAt.one w5 ts.length, ?_, ?_⟩
 ·simpa [makeP] using hp1.below hb6
 ·exact (HY.out.2.1.trans ⟨zT (zF H3.out.2.1) hp2 fun i _ h => h, hob4, fun _ h => .inl h⟩).trans ⟨zF hb6, fun _ h => .inl h, fun _ h => .inl h⟩
end
section
open Go.RowKit Go.Shelf
theorem Grown.keep {W W' : World} {M b : Nat} {v1 v2 v1' v2' : Value} (g : Grown W W' M v1 v2 v1' v2') (hb : b < W.heap.size) (h0 : b ≠ M) (h1 : ∀ i, some i = v1.ownBlock → i ≠ b) (h2 : ∀ i, some i = v2.ownBlock → i ≠ b) :
 W'.heap[b]? = W.heap[b]? ∧ (∀ i, some i = v1'.ownBlock → i ≠ b) ∧ (∀ i, some i = v2'.ownBlock → i ≠ b) := by
 refine ⟨g.fr.block b hb (by
  rintro (h | h | h)
  ·exact h0 h
  ·exact h1 b h rfl
  ·exact h2 b h rfl), fun i hi => ?_, fun i hi => ?_⟩
 ·rcases g.own1 i hi with h | h
  ·exact h1 i h
  ·omega
 ·rcases g.own2 i hi with h | h
  ·exact h2 i h
  ·omega
theorem MkAt.own1 {w : World} {M lo : Nat} {v1 v2 : Value} {ts : List Test} {es : List Edge} (h : MkAt w M lo v1 v2 ts es) : ∀ i, some i = v1.ownBlock → i < w.heap.size := fun i hi => (winC_ob h.tests i hi).2
theorem MkAt.own2 {w : World} {M lo : Nat} {v1 v2 : Value} {ts : List Test} {es : List Edge} (h : MkAt w M lo v1 v2 ts es) : ∀ i, some i = v2.ownBlock → i < w.heap.size := fun i hi => (winC_ob h.follow i hi).2
theorem MkAt.new {w W : World} {M : Nat} {v1 v2 : Value} (hb : Below w.heap.size w W) : Grown w W M v1 v2 v1 v2 := ⟨zF hb, fun _ h => .inl h, fun _ h => .inl h⟩
theorem lo_le {w : World} {M lo : Nat} {v1 v2 : Value} {ts : List Test} {es : List Edge} (h : MkAt w M lo v1 v2 ts es) : lo ≤ w.heap.size := Nat.le_of_lt (Nat.lt_of_le_of_lt h.lo_ h.lt)
theorem IntsAt.form {w : World} {v : Value} {xs : List Int} (h : IntsAt w v xs) : ∃ a c, v = .slice a xs.length c := by obtain ⟨⟨_, a, c, e, _⟩, _⟩ := h; exact ⟨a, c, e⟩
theorem IntsAt.of_win {w : World} {v : Value} {S : Nat → Prop} {xs : List Int} (h : Win intC 1 3 w v S xs) : IntsAt w v xs := ⟨win_rd intC_len h, fun i hi => by
 obtain ⟨_, cur, hg⟩ := win_own_type h i hi
 exact ⟨cur, _, hg⟩⟩
def KidH (M lo : Nat) (f : Form) (o1 : Int) (t1 : Test) (n1 : Int) (k1 : Pats) : Prop :=
 ∀ (W : World) (v1 v2 u : Value) (ts : List Test) (es : List Edge), MkAt W M lo v1 v2 ts es → RdKB lo W k1 u → ts.length + (makeP f ts.length).tests.length ≤ 12 → es.length + 144 * fsize f ≤ 10000 → fsize f ≤ 12 →
  Calls Tryz.prog 77 #[.pointer (some ⟨M, 0, none⟩), .agg (patA ⟨o1, t1, n1, k1⟩ u)] W (EndsR M lo v1 v2 ts es (makeP f ts.length) W)
set_option maxHeartbeats 16000000 in
theorem ends_many (M lo : Nat) (v1 v2 v : Value) (ts : List Test) (es : List Edge) (fa : Form) (n o1 n1 : Int) (t t1 : Test) (k1 : Pats) (w : World) (h : MkAt w M lo v1 v2 ts es) (hk : RdKB lo w (.cons o1 t1 n1 k1 .nil) v)
 (hts : ts.length + (makeP (.many n fa) ts.length).tests.length ≤ 12) (hes : es.length + 144 * fsize (.many n fa) ≤ 10000) (hfs : fsize (.many n fa) ≤ 12) (hA : KidH M lo fa o1 t1 n1 k1) :
 Calls Tryz.prog 77 #[.pointer (some ⟨M, 0, none⟩), .agg (patA ⟨4, t, n, .cons o1 t1 n1 k1 .nil⟩ v)] w (EndsR M lo v1 v2 ts es (makeP (.many n fa) ts.length) w) := by
 obtain ⟨a, c, rfl, hc1, hc2, h3⟩ := hk
 obtain ⟨b, o, rfl, hbw, ⟨⟨d0, d1, d2, d3, d4⟩, ⟨a1, c1, d5, g1, g2, g3⟩, _⟩⟩ := h3 (by simp [Pats.len])
 have hk1 : RdKB lo w k1 (.slice a1 k1.len c1) := ⟨a1, c1, rfl, g1, g2, g3⟩
 obtain ⟨ts0, tl, th⟩ := t
 obtain ⟨t1s, t1l, t1h⟩ := t1
 simp only [makeP, fsize] at hts hes hfs
 dsimp only [patA, Pats.len] at *
 have HH := zH (zA h hk1)
 have HA := zH hA
 have hMl := h.lt
 have al := fun o => (Below.refl w.heap.size w).alloc (Nat.le_refl _) o
 have e0 := fun o => zB (al o) d0
 have e1 := fun o => zB (al o) d1
 have e2 := fun o => zB (al o) d2
 have e3 := fun o => zB (al o) d3
 have e4 := fun o => zB (al o) d4
 have e5 := fun o => zB (al o) d5
 have hse := makeP_size fa ts.length
 have hen := makeP_ends fa ts.length
 have hfo := makeP_follow fa ts.length
 clear d0 d1 d2 d3 d4 d5 al h hk1 hA hc1 hc2 h3 g1 g2 g3 hbw
 go_enter Tryz.func77, Tryz.ntmps77
 go_wp2_with fail
 refine zX (G := fun W => Calls _ _ _ W _) w _ _ fun W2 hb hz hx => ?_
 have hM2 := HH.out.1.below hb
 refine (HA.out W2 v1 v2 (.slice a1 k1.len c1) ts es hM2 (HH.out.2.keep (hb.mono (lo_le HH.out.1))) (by omega) (by omega) (by omega)).mono ?_
 clear e0 e1 e2 e3 e4 e5
 rintro e W3 ⟨vf, vl, u1, u2, rfl, hf, hl, hM3, hG3⟩
 obtain ⟨hx3, _, _⟩ := hG3.keep (b := w.heap.size) (by omega) (by omega) (fun i hi => by have := HH.out.1.own1 i hi; omega) (fun i hi => by have := HH.out.1.own2 i hi; omega)
 rw [hx] at hx3
 have b0 : W3.cell? ⟨w.heap.size, 0, none⟩ = some (.int .i64 4) := zC hx3 0
 have b4 : W3.cell? ⟨w.heap.size, 4, none⟩ = some (.int .i64 n) := zC hx3 4
 have al3 := fun o => (Below.refl W3.heap.size W3).alloc (Nat.le_refl _) o
 have b0' := fun o => zB (al3 o) b0
 have H3 := zH (zA hf (zA hl (zA hM3 ((MkAt.new (M := M) (v1 := v1) (v2 := v2) hb).trans hG3))))
 clear hf hl hM3 hG3 hx hx3 hM2 al3
 go_wp2_with fail
 generalize hW4 : World.alloc _ _ = W4
 have hb4 : Below W3.heap.size W3 W4 := by rw [← hW4]; exact (Below.refl _ _).alloc (Nat.le_refl _) _
 obtain ⟨hf, hl, hM3, hG3⟩ := H3.out
 have hf4 := hf.below hb4
 have hl4 := hl.below hb4
 have hM4 := hM3.below hb4
 refine (link_any M lo u1 u2 vl vf _ _ _ _ ⟨0, 0, n, false, zeroT⟩ W4 hM4 hl4 hf4 (by omega) (by omega) (by rw [List.length_append]; omega)).mono ?_
 clear b0 b4 b0'
 rintro e W5 ⟨rfl, x2, hM5, hG5⟩
 have H5 := zH (zA (hf4.grow hM4 hG5) (zA (hl4.grow hM4 hG5) (zA hM5 ((hG3.trans (MkAt.new hb4)).trans hG5))))
 clear hf hl hM3 hG3 hf4 hl4 hM4 hM5 hG5 hb4 hW4
 go_wp2
 go_ret2
 refine ⟨vf, vl, u1, x2, rfl, H5.out.1, H5.out.2.1, ?_, H5.out.2.2.2⟩
 have := H5.out.2.2.1
 rw [List.append_assoc] at this
 exact this
end
section
open Go.RowKit Go.Shelf
set_option maxHeartbeats 16000000 in
theorem ends_thn (M lo : Nat) (v1 v2 v : Value) (ts : List Test) (es : List Edge) (fa fb : Form) (n o1 n1 o2 n2 : Int) (t t1 t2 tc : Test) (k1 k2 : Pats) (w : World) (h : MkAt w M lo v1 v2 ts es) (hk : RdKB lo w (.cons o1 t1 n1 k1 (.cons o2 t2 n2 k2 .nil)) v)
 (hts : ts.length + (makeP (.thn n fa fb) ts.length).tests.length ≤ 12) (hes : es.length + 144 * fsize (.thn n fa fb) ≤ 10000) (hfs : fsize (.thn n fa fb) ≤ 12) (hA : KidH M lo fa o1 t1 n1 k1) (hB : KidH M lo fb o2 t2 n2 k2) :
 Calls Tryz.prog 77 #[.pointer (some ⟨M, 0, none⟩), .agg (patA ⟨2, t, n, .cons o1 t1 n1 k1 (.cons o2 t2 n2 k2 .nil)⟩ v)] w (EndsR M lo v1 v2 ts es (makeP (.thn n fa fb) ts.length) w) := by
 obtain ⟨b, o, c, a1, c1, a2, c2, rfl, hbw, hc1, hc2, _, ⟨⟨d0, d1, d2, d3, d4, d5⟩, hk1⟩, ⟨⟨e0, e1, e2, e3, e4, e5⟩, hk2⟩⟩ := two_kids hk
 obtain ⟨ts0, tl, th⟩ := t
 obtain ⟨t1s, t1l, t1h⟩ := t1
 obtain ⟨t2s, t2l, t2h⟩ := t2
 obtain ⟨tcs, tcl, tch⟩ := tc
 simp only [makeP, fsize, List.length_append] at hts hes hfs
 dsimp only [patA, Pats.len] at *
 have HH := zH (zA h (zA hk1 hk2))
 have HA := zH hA
 have HB := zH hB
 have hMl := h.lt
 have hlow := lo_le h
 have al := fun o => (Below.refl w.heap.size w).alloc (Nat.le_refl _) o
 have p0 := fun o => zB (al o) d0
 have p1 := fun o => zB (al o) d1
 have p2 := fun o => zB (al o) d2
 have p3 := fun o => zB (al o) d3
 have p4 := fun o => zB (al o) d4
 have p5 := fun o => zB (al o) d5
 have hse := makeP_size fa ts.length
 have hen := makeP_ends fa ts.length
 have hfo := makeP_follow fa ts.length
 have hse2 := makeP_size fb (ts.length + (makeP fa ts.length).tests.length)
 have hen2 := makeP_ends fb (ts.length + (makeP fa ts.length).tests.length)
 have hfo2 := makeP_follow fb (ts.length + (makeP fa ts.length).tests.length)
 have HQ := zH (zA e0 (zA e1 (zA e2 (zA e3 (zA e4 e5)))))
 clear d0 d1 d2 d3 d4 d5 al h hk1 hk2 hA hB hc1 hc2 hk e0 e1 e2 e3 e4 e5
 go_enter Tryz.func77, Tryz.ntmps77
 go_wp2_with fail
 refine zX (G := fun W => Calls _ _ _ W _) w _ _ fun W2 hb hz hx => ?_
 have hM2 := HH.out.1.below hb
 refine (HA.out W2 v1 v2 (.slice a1 k1.len c1) ts es hM2 (HH.out.2.1.keep (hb.mono hlow)) (by omega) (by omega) (by omega)).mono ?_
 clear p0 p1 p2 p3 p4 p5
 rintro e W3 ⟨vf, vl, u1, u2, rfl, hf, hl, hM3, hG3⟩
 obtain ⟨hx3, hw1, hw2⟩ := hG3.keep (b := w.heap.size) (by omega) (by omega) (fun i hi => by have := HH.out.1.own1 i hi; omega) (fun i hi => by have := HH.out.1.own2 i hi; omega)
 rw [hx] at hx3
 have hBl3 : Below lo w W3 := (hb.mono hlow).trans (hG3.lo hM2 (Nat.le_trans hlow hb.size))
 have hs3 := hG3.fr.size
 have H3 := zH (zA hf (zA hl (zA hM3 (zA ((MkAt.new (M := M) (v1 := v1) (v2 := v2) hb).trans hG3) (zA hw1 (zA hw2 hBl3))))))
 have hBc : ∀ {a : Addr} {u : Value}, a.block < lo → w.cell? a = some u → W3.cell? a = some u := fun ha hc => (hBl3.cell ha).trans hc
 have b0 : W3.cell? ⟨w.heap.size, 0, none⟩ = some (.int .i64 2) := zC hx3 0
 have b4 : W3.cell? ⟨w.heap.size, 4, none⟩ = some (.int .i64 n) := zC hx3 4
 have b5 : W3.cell? ⟨w.heap.size, 5, none⟩ = some (.slice (some ⟨b, o, none⟩) 2 c) := zC hx3 5
 have al3 := fun o => (Below.refl W3.heap.size W3).alloc (Nat.le_refl _) o
 have b0' := fun o => zB (al3 o) b0
 have b5' := fun o => zB (al3 o) b5
 have q0 := fun x => zB (al3 x) (hBc (a := ⟨b, o + 6, none⟩) hbw HQ.out.1)
 have q1 := fun x => zB (al3 x) (hBc (a := ⟨b, o + 6 + 1, none⟩) hbw HQ.out.2.1)
 have q2 := fun x => zB (al3 x) (hBc (a := ⟨b, o + 6 + 2, none⟩) hbw HQ.out.2.2.1)
 have q3 := fun x => zB (al3 x) (hBc (a := ⟨b, o + 6 + 3, none⟩) hbw HQ.out.2.2.2.1)
 have q4 := fun x => zB (al3 x) (hBc (a := ⟨b, o + 6 + 4, none⟩) hbw HQ.out.2.2.2.2.1)
 have q5 := fun x => zB (al3 x) (hBc (a := ⟨b, o + 6 + 5, none⟩) hbw HQ.out.2.2.2.2.2)
 have HX3 := zH hx3
 clear hf hl hM3 hG3 hx hM2 hw1 hw2 hBl3
 have hwk : IntKind.i64.wrap ((2 : Int) - 1) = 1 := by decide
 clear hBc al3 hx3
 go_wp2_with fail
 refine zX (G := fun W => Calls _ _ _ W _) W3 _ _ fun W4 hb4 hz4 hx4 => ?_
 obtain ⟨hf, hl, hM3, hG3, hw1, hw2, hBl3⟩ := H3.out
 have hM4 := hM3.below hb4
 refine (HB.out W4 u1 u2 (.slice a2 k2.len c2) _ _ hM4 (HH.out.2.2.keep (hBl3.trans (hb4.mono (Nat.le_trans hlow hBl3.size)))) (by rw [List.length_append, show (((ts.length + (makeP fa ts.length).tests.length : Nat)) : Int) = ts.length + (makeP fa ts.length).tests.length by omega]; omega) (by rw [List.length_append]; omega) (by omega)).mono ?_
 clear b0 b4 b5 b0' b5' q0 q1 q2 q3 q4 q5
 rw [List.length_append, show (((ts.length + (makeP fa ts.length).tests.length : Nat)) : Int) = ts.length + (makeP fa ts.length).tests.length by omega]
 rintro e W5 ⟨xf, xl, y1, y2, rfl, hf5, hl5, hM5, hG5⟩
 have hf4 := (hf.below hb4).grow hM4 hG5
 have hl4 := (hl.below hb4).grow hM4 hG5
 obtain ⟨hx5, _, _⟩ := hG5.keep (b := w.heap.size) (by have := hb4.size; omega) (by omega) hw1 hw2
 obtain ⟨hy5, hy1, hy2⟩ := hG5.keep (b := W3.heap.size) (by omega) (by have := hM3.lt; omega) (fun i hi => by have := hM3.own1 i hi; omega) (fun i hi => by have := hM3.own2 i hi; omega)
 rw [hb4.block w.heap.size (by omega), HX3.out] at hx5
 rw [hx4] at hy5
 have b0 : W5.cell? ⟨w.heap.size, 0, none⟩ = some (.int .i64 2) := zC hx5 0
 have z0 : W5.cell? ⟨W3.heap.size, 0, none⟩ = some (.int .i64 0) := zC hy5 0
 have z1 : W5.cell? ⟨W3.heap.size, 1, none⟩ = some (.int .i64 0) := zC hy5 1
 have z2 : W5.cell? ⟨W3.heap.size, 2, none⟩ = some (.int .i64 n) := zC hy5 2
 have z3 : W5.cell? ⟨W3.heap.size, 3, none⟩ = some (.bool false) := zC hy5 3
 have z4 : W5.cell? ⟨W3.heap.size, 4, none⟩ = some (.int .i64 0) := zC hy5 4
 have z5 : W5.cell? ⟨W3.heap.size, 5, none⟩ = some (.int .i64 0) := zC hy5 5
 have z6 : W5.cell? ⟨W3.heap.size, 6, none⟩ = some (.int .i64 0) := zC hy5 6
 have H5 := zH (zA hf4 (zA hl4 (zA hf5 (zA hl5 (zA hM5 ((hG3.trans (MkAt.new hb4)).trans hG5))))))
 clear hf hl hM3 hG3 hw1 hw2 hBl3 hM4 hf5 hl5 hM5 hG5 hf4 hl4 hx5 hy5 hy1 hy2 hb4 hx4
 go_wp2_with fail
 obtain ⟨hf, hl, hf5, hl5, hM5, hG5⟩ := H5.out
 refine (link_any M lo y1 y2 vl xf _ _ _ _ ⟨0, 0, n, false, zeroT⟩ W5 hM5 hl hf5 (by omega) (by omega) (by rw [List.length_append, List.length_append]; omega)).mono ?_
 rintro e W6 ⟨rfl, x2, hM6, hG6⟩
 have H6 := zH (zA (hf.grow hM5 hG6) (zA (hl5.grow hM5 hG6) (zA hM6 (hG5.trans hG6))))
 clear hf hl hf5 hl5 hM5 hG5 hM6 hG6 b0 z0 z1 z2 z3 z4 z5 z6
 go_wp2
 go_ret2
 refine ⟨vf, xl, y1, x2, rfl, H6.out.1, H6.out.2.1, ?_, H6.out.2.2.2⟩
 have := H6.out.2.2.1
 simp only [List.append_assoc] at this
 simp only [makeP, List.append_assoc]
 exact this
end
end Go.Proofs.YtgiploddoffmjaaGreat
