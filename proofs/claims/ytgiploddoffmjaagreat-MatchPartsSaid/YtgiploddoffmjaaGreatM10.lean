/- My texts, joined: W13, W14, W15, W16, W17, Base6, W18, W19, W20. -/
import Derived.Below
import Derived.BigQuiet
import Derived.Deep.AppendLies
import Derived.Deep.DeepCutAuto
import Derived.Deep.QuietTactic
import Derived.Deep.RegionHeld
import Derived.Deep.RegionHeld3
import Derived.Deep.RegionLaw
import Derived.Defers
import Derived.Ground.Names2Prog
import Derived.Ground.SlsfProg
import Derived.KernelRfl
import Derived.Laws.AppendOwn
import Derived.Laws.AppendOwnNone
import Derived.Laws.CopyRow
import Derived.Laws.Pointers
import Derived.Lib.Hide
import Derived.Lib.Overlaps
import Derived.LoopIn
import Derived.LoopNIn
import Derived.LoopTactic
import Derived.MapKept
import Derived.Maps.AppendAt
import Derived.Maps.OwnOps
import Derived.Maps.RangeRun
import Derived.Maps.RangeWalk
import Derived.Outline
import Derived.OwnWalk
import Derived.OwnWalkIn
import Derived.RangeFuncBound
import Derived.RangeFuncCalls
import Derived.RangeFuncLeaves
import Derived.RangeFuncNested
import Derived.Recover
import Derived.Shelf.Abstract
import Derived.Shelf.RegionOpen
import Derived.Shelf.SlGeneric
import Derived.Shelf.SlLaysF0
import Derived.Shelf.SlSortCmp.HeapSort1
import Derived.Shelf.SlSortCmp.Insertion
import Derived.Shelf.SlSortCmp.Insertion1
import Derived.Shelf.SlSortCmp.Median1
import Derived.Shelf.SlSortCmp.NoneTotal
import Derived.Shelf.SlSortCmp.PartialInsertion1
import Derived.Shelf.SlSortCmp.Partition1
import Derived.Shelf.SlSortCmp.PartitionEqual1
import Derived.Shelf.SlSortCmp.Pdq1
import Derived.Shelf.SlSortCmp.Pivot1
import Derived.Shelf.SlSortCmp.ReverseRange1
import Derived.Shelf.SlSortCmp.SiftDown1
import Derived.Shelf.SlSortCmp.Whole1
import Derived.Shelf.SlSortCmp.WholeK
import Derived.Shelf.Slices.In.SortNone
import Derived.Shelf.Small.Bits
import Derived.Shelf.Sort.Plain
import Derived.TacticsInMore
import Derived.Test.YtgiploddoffmjaaGreatProg
import Derived.WalkKit
import Derived.WalkLawsBesides
import Derived.WalkSpells
import Derived.Test.YtgiploddoffmjaaGreatM0
import Derived.Test.YtgiploddoffmjaaGreatM1
import Derived.Test.YtgiploddoffmjaaGreatM2
import Derived.Test.YtgiploddoffmjaaGreatM3
import Derived.Test.YtgiploddoffmjaaGreatM4
import Derived.Test.YtgiploddoffmjaaGreatM5
import Derived.Test.YtgiploddoffmjaaGreatM6
import Derived.Test.YtgiploddoffmjaaGreatM8
import Derived.Test.YtgiploddoffmjaaGreatM9
set_option linter.unusedVariables false
set_option linter.unusedSimpArgs false
set_option linter.unusedSectionVars false
set_option maxRecDepth 10000
namespace Go.Proofs.YtgiploddoffmjaaGreat
section
open Go.RowKit Go.Shelf Go.Sort
theorem fr_sort1 {α : Type} [Inhabited α] (enc : α → Value) (w : World) (blk off n : Nat) (d : Array α) (os : Array Obj) : Fr (fun i => i = blk) w (sortWorld enc w blk off n d os) := fr_putRow enc w n blk off _ os
theorem one_flat {α : Type} (enc : α → Value) (l : List α) : l.flatMap (fun x => [enc x]) = l.map enc := by
 induction l with
 | nil => rfl
 | cons x l ih => rw [List.flatMap_cons, ih]; rfl
theorem win_sort {α : Type} [Inhabited α] (enc : α → Value) {e : Nat} {w : World} {b off n c : Nat} {S : Nat → Prop} {xs : List α} (h : Win (fun x => [enc x]) 1 e w (.slice (some ⟨b, off, none⟩) n c) S xs) (hn : xs.length = n) (d : Array α) (hd : d.size = n) (m : Nat) (os : Array Obj) :
 Win (fun x => [enc x]) 1 e (sortWorld enc w b off m d os) (.slice (some ⟨b, off, none⟩) n c) S d.toList := by
 obtain ⟨_, h⟩ := h
 rw [hn] at h
 rcases h with ⟨hv, _⟩ | ⟨g, o, cap, cur, hv, hS, hg, hnc, hm, hsz, _⟩
 ·cases hv
 ·injection hv with e1 e2 e3
  injection e1 with e1
  injection e1 with e1 e4
  subst e1
  subst e3
  subst e4
  have hlt : b < w.heap.size := (Array.getElem?_eq_some_iff.1 hg).1
  have hg' : (sortWorld enc w b off m d os).heap[b]? = some (.cells (putCells enc off d cur) e (0, 0)) := by
   unfold sortWorld
   rw [heap_grow_old _ _ (by simp [putRow, mapBlock, Sort.ahead]; exact hlt)]
   simp only [putRow, mapBlock, Sort.ahead, Array.getElem?_modify, if_true, hg, Option.map_some, onCells]
  refine ⟨by rw [one_flat]; simp, ?_⟩
  rw [show d.toList.length = n by simpa using hd]
  refine .inr ⟨b, off, c, putCells enc off d cur, rfl, hS, hg', hnc, hm, by rw [putCells, Array.size_mapIdx]; exact hsz, ?_⟩
  rw [one_flat]
  apply List.ext_getElem?
  intro j
  by_cases hj : j < n
  ·rw [List.getElem?_take, if_pos (by omega), List.getElem?_drop, Array.getElem?_toList, putCells, Array.getElem?_mapIdx, List.getElem?_map]
   have hc : off + j < cur.size := by omega
   have hdj : j < d.size := by omega
   rw [Array.getElem?_eq_getElem hc, Option.map_some, if_pos (by omega), Array.getElem?_toList, Array.getElem?_eq_getElem hdj, Option.map_some, show off + j - off = j by omega, getElem!_pos d j hdj]
  ·rw [List.getElem?_eq_none (by simp; omega), List.getElem?_eq_none (by simp; omega)]
end
section
open Go.RowKit Go.Shelf Go.Sort
theorem rd_away {α : Type} {enc : α → List Value} {k : Nat} {w W : World} {v : Value} {xs : List α} {S : Nat → Prop} (h : Rd enc k w v xs) (hf : Fr S w W) (hS : ∀ i, some i = v.ownBlock → xs = [] ∨ ¬ S i) : Rd enc k W v xs := by
 cases xs with
 | nil =>
  obtain ⟨h0, a, c, hv, _⟩ := h
  exact ⟨h0, a, c, hv, fun hp => absurd hp (by simp)⟩
 | cons x t => exact rd_move h hf fun i hi => (hS i hi).resolve_left (by simp)
def RL (w : World) (blk : Nat) := { p : Value × List Int // Rd intC 1 w p.1 p.2 ∧ ∀ i, some i = p.1.ownBlock → p.2 = [] ∨ i ≠ blk }
instance (w : World) (blk : Nat) : Inhabited (RL w blk) := ⟨⟨(.slice none 0 0, []), Rd.nil _ _ _, fun _ _ => .inl rfl⟩⟩
def RL.enc {w : World} {blk : Nat} (x : RL w blk) : Value := x.1.1
def RL.nums {w : World} {blk : Nat} (x : RL w blk) : List Int := x.1.2
theorem RL.one {w : World} {blk : Nat} (x : RL w blk) : x.enc.oneCell' = true := by
 obtain ⟨⟨v, xs⟩, ⟨_, a, c, hv, _⟩, _⟩ := x
 show v.oneCell' = true
 dsimp only at hv
 rw [hv]
 rfl
theorem ltRL {w : World} {blk : Nat} (x y : RL w blk) : ltOf (fun x y : RL w blk => cmpL x.nums y.nums) x y = decide (ordL x.nums y.nums < 0) := by
 show decide (cmpL x.nums y.nums < 0) = _
 rw [decide_eq_decide]
 exact cmpL_ordL _ _
theorem swoRL (w : World) (blk : Nat) : SWO (ltOf fun x y : RL w blk => cmpL x.nums y.nums) where
 irrefl x := by rw [ltRL]; simpa using ordL_laws.irrefl x.nums
 trans x y z h1 h2 := by
  rw [ltRL] at *
  simp only [decide_eq_true_eq] at *
  exact ordL_trans _ _ _ h1 h2
 ntrans x y z h1 h2 := by
  rw [ltRL] at *
  simp only [decide_eq_false_iff_not] at *
  intro h3
  have f1 := ordL_flip x.nums y.nums
  have f2 := ordL_flip y.nums x.nums
  have f3 := ordL_flip y.nums z.nums
  have f4 := ordL_flip z.nums y.nums
  by_cases hxy : ordL x.nums y.nums = 0
  ·rw [(ordL_eq _ _).1 hxy] at h3; exact h2 h3
  ·have hyx : ordL y.nums x.nums < 0 := by omega
   have := ordL_trans _ _ _ hyx h3
   exact h2 this
theorem holds_win1 {α : Type} [Inhabited α] (enc : α → Value) {e : Nat} {w : World} {b off n c : Nat} {S : Nat → Prop} {xs : List α} (h : Win (fun x => [enc x]) 1 e w (.slice (some ⟨b, off, none⟩) n c) S xs) (hn : xs.length = n) : Holds enc w b off xs.toArray := by
 subst hn
 have hcells := winC_cells h
 have hfr : ∀ j, w.frozen? ⟨b, j, none⟩ = false := by
  rcases h.2 with ⟨hv, _⟩ | ⟨g, o, cap, cur, hv, hS, hg, _⟩
  ·simp at hv
  ·injection hv with h1 h2 h3
   injection h1 with h1
   injection h1 with h1 h4
   subst h1
   exact fun j => zK hg j
 intro j hj
 refine ⟨?_, hfr _⟩
 have hj' : j < xs.length := by simpa using hj
 have hx : (xs.flatMap fun x => [enc x])[j]? = some (enc xs[j]) := by rw [one_flat, List.getElem?_map, List.getElem?_eq_getElem hj']; rfl
 rw [hcells j _ hx, getElem!_pos _ j (by simpa using hj')]
 rfl
set_option maxHeartbeats 1000000 in
/-- The sort that unique asks for: the rows in order, in their place. -/
theorem sortLists_any (b off c : Nat) (S : Nat → Prop) (w : World) (gs : List (RL w b)) (hw : Win (fun x : RL w b => [x.enc]) 1 31 w (.slice (some ⟨b, off, none⟩) gs.length c) S gs) (hl : gs.length < 1000000000) :
 Calls Tryz.prog 161 #[.slice (some ⟨b, off, none⟩) gs.length c, .func (.func 162) #[] #[]] w fun e w' =>
  e = .returned (.tuple #[]) ∧ ∃ gs' : List (RL w b), gs'.Perm gs ∧ (gs'.Pairwise fun x y => ordL x.nums y.nums ≤ 0) ∧ Win (fun x : RL w b => [x.enc]) 1 31 w' (.slice (some ⟨b, off, none⟩) gs.length c) S gs' ∧ Fr (fun i => i = b) w w' := by
 have hob : b < w.heap.size := (winC_ob hw b rfl).2
 have hH := holds_win1 RL.enc hw rfl
 have eg : ∀ args w, (callFunc 162 args).run Tryz.prog w = .ok (.enter 162 args) w := enters_of Tryz.func162 (by kernel_rfl) rfl
 have hcmp : CmpLays1 Tryz.prog 162 #[] (RL.enc (w := w) (blk := b)) (fun x y => cmpL x.nums y.nums) b off gs.toArray.size w := by
  intro m os dk hdk x y
  have hF := fr_sort1 (RL.enc (w := w) (blk := b)) w b off m dk os
  have hx := rd_away x.2.1 hF x.2.2
  have hy := rd_away y.2.1 hF y.2.2
  refine (uniqueCmp_any x.enc y.enc x.nums y.nums _ hx hy).mono ?_
  rintro e w' ⟨rfl, rfl⟩
  exact ⟨rfl, 0, #[], by rw [grow_empty]; rfl⟩
 have hcon := Tryz.slices_SortFunc (RL.enc (w := w) (blk := b)) (fun x => x.one) (fun x y => cmpL x.nums y.nums) (swoRL w b) 162 #[] b off c gs.toArray w eg hcmp hH hob (by simp; omega)
 refine hcon.mono ?_
 rintro e w' ⟨rfl, d', n, os, hp, hs, rfl⟩
 have hsz : d'.size = gs.length := by simpa using hp.1
 refine ⟨rfl, d'.toList, ?_, ?_, win_sort RL.enc hw rfl d' hsz n os, fr_sort1 _ _ _ _ _ _ _⟩
 ·have := hp.2.2
  rw [show gs.toArray.size = d'.size by simpa using hsz.symm] at this
  have h2 := List.take_of_length_le (l := gs) (i := d'.size) (by omega)
  simp only [Array.extract_size, Array.toList_extract, List.extract_eq_take_drop, Nat.sub_zero, List.drop_zero] at this
  rw [h2] at this
  simpa using this
 ·refine List.pairwise_iff_getElem.2 fun i j hi hj hij => ?_
  rw [Array.length_toList] at hi hj
  have := hs i j (by omega) hij (by rw [← hp.1]; exact hj)
  rw [ltRL] at this
  simp only [hi, hj, getElem!_pos, decide_eq_false_iff_not] at this
  have f := ordL_flip (d'[j]).nums (d'[i]).nums
  simp only [Array.getElem_toList]
  omega
end
section
open Go.RowKit Go.Shelf
set_option maxHeartbeats 4000000 in
theorem equalL_any (v1 v2 : Value) (xs ys : List Int) (w : World) (h1 : Rd intC 1 w v1 xs) (h2 : Rd intC 1 w v2 ys) :
 Calls Tryz.prog 166 #[v1, v2] w fun e w' => e = .returned (.bool (decide (xs = ys))) ∧ Below w.heap.size w w' := by
 obtain ⟨a1, c1, rfl⟩ : ∃ a c, v1 = .slice a xs.length c := by obtain ⟨_, a, c, rfl, _⟩ := h1; exact ⟨a, c, rfl⟩
 obtain ⟨a2, c2, rfl⟩ : ∃ a c, v2 = .slice a ys.length c := by obtain ⟨_, a, c, rfl, _⟩ := h2; exact ⟨a, c, rfl⟩
 have l1 := h1.1
 have l2 := h2.1
 have R1 := zH h1
 have R2 := zH h2
 clear h1 h2
 by_cases hl : xs.length = ys.length
 rotate_left
 ·have hlb : ((xs.length : Int) != (ys.length : Int)) = true := by simp; omega
  have e : decide (xs = ys) = false := decide_eq_false fun h => hl (by rw [h])
  have HE := zH e
  clear e hl
  go_enter Tryz.func166, Tryz.ntmps166
  go_wp2
  go_ret
  exact ⟨ret_bool HE.out.symm, Below.refl _ _⟩
 ·have hlb : ((xs.length : Int) != (ys.length : Int)) = false := by simp; omega
  have HLN := zH hl
  clear hl
  go_enter Tryz.func166, Tryz.ntmps166
  go_wp2
  go_loopw [13] (fun i W => ∃ n : Nat, i = .int .i64 n ∧ n ≤ xs.length ∧ xs.take n = ys.take n ∧ Below w.heap.size w W) (fun i _ => xs.length - (intOf i).toNat)
  case atStart => exact ⟨0, rfl, by omega, rfl, Below.refl _ _⟩
  case round =>
   obtain ⟨n, rfl, hn1, ho, hB⟩ := hrel
   by_cases hx1 : n < xs.length
   ·have hx := List.getElem?_eq_getElem hx1
    have hy := List.getElem?_eq_getElem (show n < ys.length by have := HLN.out; omega)
    generalize xs[n] = x at hx
    generalize ys[n] = y at hy
    obtain ⟨b1, o1, rfl, _, hc1⟩ := rd_at (R1.out.below hB) hx
    obtain ⟨b2, o2, rfl, _, hc2⟩ := rd_at (R2.out.below hB) hy
    have q1 : wr.cell? ⟨b1, o1 + n * 1, none⟩ = some (.int .i64 x) := hc1 0 _ rfl
    have q2 : wr.cell? ⟨b2, o2 + n * 1, none⟩ = some (.int .i64 y) := hc2 0 _ rfl
    rw [Nat.mul_one] at q1 q2
    have HO := zH (zA hx (zA hy (zA ho hB)))
    have n1 : (n : Int) < (xs.length : Int) := by omega
    have n2 : (n : Int) < (ys.length : Int) := by have := HLN.out; omega
    clear hc1 hc2 hx hy ho hB
    by_cases hxy : x = y
    ·have hd : (x != y) = false := by simp [hxy]
     have HE := zH hxy
     clear hxy
     go_wp2
     go_quiet (fail)
     go_wp2
     go_roundw
     case rel => exact ⟨n + 1, by go_num, by omega, by rw [List.take_add_one, List.take_add_one, HO.out.1, HO.out.2.1, HO.out.2.2.1, HE.out], below_drewN HO.out.2.2.2 _⟩
     case measure => simp [intOf]; omega
    ·have hd : (x != y) = true := by simp [hxy]
     have e : decide (xs = ys) = false := decide_eq_false fun h => hxy (by
      have h1 := HO.out.1
      rw [h, HO.out.2.1] at h1
      injection h1 with h1
      exact h1.symm)
     have HE := zH e
     clear hxy e
     go_wp2
     go_quiet (fail)
     go_wp2
     go_ret
     exact ⟨ret_bool HE.out.symm, below_drewN HO.out.2.2.2 _⟩
   ·obtain rfl : n = xs.length := by omega
    have e : decide (xs = ys) = true := decide_eq_true (by
     rw [List.take_length, HLN.out, List.take_length] at ho
     exact ho)
    have HE := zH (zA e hB)
    clear e ho hB
    go_wp2
    go_ret
    exact ⟨ret_bool HE.out.1.symm, HE.out.2⟩
theorem uniqueEq_any (v1 v2 : Value) (xs ys : List Int) (w : World) (h1 : Rd intC 1 w v1 xs) (h2 : Rd intC 1 w v2 ys) :
 Calls Tryz.prog 165 #[v1, v2] w fun e w' => e = .returned (.bool (decide (xs = ys))) ∧ Below w.heap.size w w' := by
 have HC := zH (equalL_any v1 v2 xs ys w h1 h2)
 clear h1 h2
 go_enter Tryz.func165, Tryz.ntmps165
 go_wp2_with (go_at_call 166; refine HC.out.mono ?_; rintro e w' ⟨rfl, hb⟩)
 go_ret
 exact ⟨rfl, hb⟩
end
section
open Go.RowKit Go.Shelf
theorem clipL_any (b off n c : Nat) (h : n ≤ c) (w : World) : Calls Tryz.prog 107 #[.slice (some ⟨b, off, none⟩) n c] w fun e w' => e = .returned (.slice (some ⟨b, off, none⟩) n n) ∧ w = w' := by
 have h1 : (n : Int) ≤ (c : Int) := by omega
 have h2 : (0 : Int) ≤ (n : Int) := by omega
 go_enter Tryz.func107, Tryz.ntmps107
 go_wp2
 go_ret
 exact ⟨by simp, rfl⟩
theorem clipL_nil (w : World) : Calls Tryz.prog 107 #[.slice none 0 0] w fun e w' => e = .returned (.slice none 0 0) ∧ w = w' := by
 go_enter Tryz.func107, Tryz.ntmps107
 go_wp2
 go_ret
 exact ⟨by simp, rfl⟩
end
section
open Go.RowKit Go.Shelf
def RdLL (w : World) (v : Value) (m : List (List Int)) : Prop := ∃ vs : List Value, vs.length = m.length ∧ Rd (fun u : Value => [u]) 1 w v vs ∧ ∀ (i : Nat) (u : Value) (x : List Int), vs[i]? = some u → m[i]? = some x → Rd intC 1 w u x
theorem RdLL.below {w w1 : World} {v : Value} {m : List (List Int)} (h : RdLL w v m) (hb : Below w.heap.size w w1) : RdLL w1 v m := by
 obtain ⟨vs, h1, h2, h3⟩ := h
 exact ⟨vs, h1, h2.below hb, fun i u x hu hx => (h3 i u x hu hx).below hb⟩
theorem RdLL.form {w : World} {v : Value} {m : List (List Int)} (h : RdLL w v m) : (∃ a c, v = .slice a m.length c) ∧ m.length ≤ 9223372036854775807 := by
 obtain ⟨vs, h1, ⟨h0, a, c, hv, _⟩, _⟩ := h
 rw [h1] at hv h0
 exact ⟨⟨a, c, hv⟩, h0⟩
theorem RdLL.at {w : World} {a : Option Addr} {n c : Nat} {m : List (List Int)} (h : RdLL w (.slice a n c) m) {i : Nat} {x : List Int} (hx : m[i]? = some x) :
 ∃ b off a' c', a = some ⟨b, off, none⟩ ∧ w.cell? ⟨b, off + i, none⟩ = some (.slice a' x.length c') ∧ Rd intC 1 w (.slice a' x.length c') x := by
 obtain ⟨vs, h1, h2, h3⟩ := h
 have hi : i < vs.length := by rw [h1]; exact (List.getElem?_eq_some_iff.1 hx).1
 have hu := List.getElem?_eq_getElem hi
 obtain ⟨b, off, ha, _, hc⟩ := rd_at h2 hu
 have hr := h3 i _ x hu hx
 have h0 := hc 0 _ rfl
 rw [Nat.mul_one, Nat.add_zero] at h0
 obtain ⟨hl, a', c', hv, hrr⟩ := hr
 rw [hv] at h0
 exact ⟨b, off, a', c', ha, h0, hl, a', c', rfl, hrr⟩
set_option maxHeartbeats 4000000 in
theorem refSame_any (v1 v2 : Value) (m1 m2 : List (List Int)) (w : World) (h1 : RdLL w v1 m1) (h2 : RdLL w v2 m2) (s1 : ∀ x ∈ m1, smallL x) (s2 : ∀ x ∈ m2, smallL x) :
 Calls Tryz.prog 20 #[v1, v2] w fun e w' => e = .returned (.bool (decide (m1 = m2))) ∧ Below w.heap.size w w' := by
 obtain ⟨⟨a1, c1, rfl⟩, l1⟩ := h1.form
 obtain ⟨⟨a2, c2, rfl⟩, l2⟩ := h2.form
 have R1 := zH h1
 have R2 := zH h2
 have S1 := zH s1
 have S2 := zH s2
 clear h1 h2 s1 s2
 by_cases hl : m1.length = m2.length
 rotate_left
 ·have hlb : ((m1.length : Int) != (m2.length : Int)) = true := by simp; omega
  have e : decide (m1 = m2) = false := decide_eq_false fun h => hl (by rw [h])
  have HE := zH e
  clear e hl
  go_enter Tryz.func20, Tryz.ntmps20
  go_wp2
  go_ret
  exact ⟨ret_bool HE.out.symm, Below.refl _ _⟩
 ·have hlb : ((m1.length : Int) != (m2.length : Int)) = false := by simp; omega
  have HLN := zH hl
  clear hl
  go_enter Tryz.func20, Tryz.ntmps20
  go_wp2
  go_loopw [5] (fun i W => ∃ n : Nat, i = .int .i64 n ∧ n ≤ m1.length ∧ m1.take n = m2.take n ∧ Below w.heap.size w W) (fun i _ => m1.length - (intOf i).toNat)
  case atStart => exact ⟨0, rfl, by omega, rfl, Below.refl _ _⟩
  case round =>
   obtain ⟨n, rfl, hn1, ho, hB⟩ := hrel
   by_cases hx1 : n < m1.length
   ·have hx := List.getElem?_eq_getElem hx1
    have hy := List.getElem?_eq_getElem (show n < m2.length by have := HLN.out; omega)
    have mx : m1[n] ∈ m1 := List.getElem_mem hx1
    have my : m2[n]'(by have := HLN.out; omega) ∈ m2 := List.getElem_mem _
    generalize m1[n] = x at hx mx
    generalize m2[n]'(by have := HLN.out; omega) = y at hy my
    have hb2 : Below wr.heap.size wr wr.drew := (Below.refl _ _).drew
    obtain ⟨b1, o1, u1, k1, rfl, q1, r1⟩ := (R1.out.below hB).at hx
    obtain ⟨b2, o2, u2, k2, rfl, q2, r2⟩ := (R2.out.below hB).at hy
    have HO := zH (zA hx (zA hy (zA ho hB)))
    have HC := zH (refOrder_any _ _ x y _ (r1.below hb2) (r2.below hb2) (S1.out x mx) (S2.out y my))
    have n1 : (n : Int) < (m1.length : Int) := by omega
    have n2 : (n : Int) < (m2.length : Int) := by have := HLN.out; omega
    have HB2 := zH hb2
    replace q1 := zB hb2 q1
    replace q2 := zB hb2 q2
    clear hx hy ho hB r1 r2 hb2 mx my
    obtain ⟨r, hr⟩ : ∃ r, r = ordL x y := ⟨_, rfl⟩
    rw [← hr] at HC
    have HR := zH hr
    clear hr
    go_wp2
    go_region_held3 (fun W => W.cell? ⟨b1, o1 + n, none⟩ = some (.slice u1 x.length k1) ∧ W.cell? ⟨b2, o2 + n, none⟩ = some (.slice u2 y.length k2)) (first | exact ⟨q1, q2⟩ | exact ⟨zB hbJ q1, zB hbJ q2⟩ | go_keep) ((first | (go_at_call 28; ((with_reducible refine HC.out.mono ?_)); rintro _ wK ⟨rfl, hbJ⟩; have HBJ := zH hbJ) | fail))
    all_goals
     by_cases hr0 : r = 0
     ·have hd : (r != 0) = false := by simp [hr0]
      have hxy : x = y := (ordL_eq x y).1 (by rw [← HR.out]; exact hr0)
      have HE := zH hxy
      clear hr0 hxy
      go_wp2
      go_roundw
      case rel => exact ⟨n + 1, by go_num, by omega, by rw [List.take_add_one, List.take_add_one, HO.out.1, HO.out.2.1, HO.out.2.2.1, HE.out], HO.out.2.2.2.trans ((HB2.out.trans (HBJ.out.mono HB2.out.size)).mono HO.out.2.2.2.size)⟩
      case measure => simp [intOf]; omega
     ·have hd : (r != 0) = true := by simp [hr0]
      have e : decide (m1 = m2) = false := decide_eq_false fun h => hr0 (by
       have h1 := HO.out.1
       rw [h, HO.out.2.1] at h1
       injection h1 with h1
       rw [HR.out]
       exact (ordL_eq x y).2 h1.symm)
      have HE := zH e
      clear hr0 e
      go_wp2
      go_ret
      exact ⟨ret_bool HE.out.symm, HO.out.2.2.2.trans ((HB2.out.trans (HBJ.out.mono HB2.out.size)).mono HO.out.2.2.2.size)⟩
   ·obtain rfl : n = m1.length := by omega
    have e : decide (m1 = m2) = true := decide_eq_true (by
     rw [List.take_length, HLN.out, List.take_length] at ho
     exact ho)
    have HE := zH (zA e hB)
    clear e ho hB
    go_wp2
    go_ret
    exact ⟨ret_bool HE.out.1.symm, HE.out.2⟩
end
section
open Go.RowKit
def spl (cur : Array Value) (o : Nat) (cs : List Value) : Array Value := (cur.toList.take o ++ cs ++ cur.toList.drop (o + cs.length)).toArray
theorem spl_size {cur : Array Value} {o : Nat} {cs : List Value} (h : o + cs.length ≤ cur.size) : (spl cur o cs).size = cur.size := by
 simp [spl]; omega
theorem spl_list (cur : Array Value) (o : Nat) (cs : List Value) : (spl cur o cs).toList = cur.toList.take o ++ cs ++ cur.toList.drop (o + cs.length) := by simp [spl]
section
variable {P : Program} (w : World)
theorem run_clear_k (t ty e : TypeId) (z : Value) (ht : P.underlying t = some (.slice e)) (hz : ∀ w, (zeroValue e).run P w = .ok z w) (h1 : ∀ u ∈ z.cells, u.oneCell' = true)
 (g o m c : Nat) (cur : Array Value) (hg : w.heap[g]? = some (.cells cur e (0, 0))) (hm : 0 < m) (hfit : o + m * z.cells.size ≤ cur.size) :
 (Builtin.clear_ #[t] ty #[.slice (some ⟨g, o, none⟩) m c]).run P w = .ok (.tuple #[]) (w.setRow g (spl cur o (Builtin.zeroCells z.cells m).toList)) := by
 have hsz : (Builtin.zeroCells z.cells m).toList.length = m * z.cells.size := by rw [Array.length_toList, size_zeroCells]
 have hall : ∀ v ∈ (Builtin.zeroCells z.cells m).toList, v.oneCell' = true := by
  intro v hv
  rw [Builtin.zeroCells, Array.toList_map, List.mem_map] at hv
  obtain ⟨q, hq, rfl⟩ := hv
  have hq2 : q < m * z.cells.size := by simpa using hq
  have hpos : 0 < z.cells.size := by rcases Nat.eq_zero_or_pos z.cells.size with h | h; rw [h] at hq2; omega; exact h
  have hlt : q % z.cells.size < z.cells.size := Nat.mod_lt _ hpos
  rw [getElem!_pos z.cells _ hlt]
  exact h1 _ (Array.getElem_mem hlt)
 have hst := run_storeCells_at P g o e (Builtin.zeroCells z.cells m).toList 0 cur w hg (by rw [hsz]; simpa using hfit) hall
 simp only [Nat.add_zero] at hst
 obtain ⟨m, rfl⟩ : ∃ q, m = q + 1 := ⟨m - 1, by omega⟩
 simp [Builtin.clear_, run_underlying ht, hz, hst, spl]
end
end
section
open Go.RowKit Go.Shelf
abbrev Row := Value × List Int
def rowC (p : Row) : List Value := [p.1]
theorem row_len (p : Row) : (rowC p).length = 1 := rfl
def nums (gs : List Row) : List (List Int) := gs.map (·.2)
theorem nums_len (gs : List Row) : (nums gs).length = gs.length := List.length_map ..
theorem nums_get {gs : List Row} {i : Nat} {p : Row} (h : gs[i]? = some p) : (nums gs)[i]? = some p.2 := by rw [nums, List.getElem?_map, h]; rfl
theorem zero_list (w : World) : (zeroValue 31).run Tryz.prog w = .ok (.slice none 0 0) w := by kernel_rfl
def RowOff (w : World) (b : Nat) (p : Row) : Prop := Rd intC 1 w p.1 p.2 ∧ ∀ i, some i = p.1.ownBlock → i ≠ b
theorem RowOff.move {w W : World} {b : Nat} {p : Row} (h : RowOff w b p) (hf : Fr (fun i => i = b) w W) : RowOff W b p := ⟨rd_move h.1 hf h.2, h.2⟩
theorem RowOff.form {w : World} {b : Nat} {p : Row} (h : RowOff w b p) : ∃ a c, p.1 = .slice a p.2.length c := by obtain ⟨⟨_, a, c, h, _⟩, _⟩ := h; exact ⟨a, c, h⟩
theorem flat_take1 (k : Nat) : ∀ ys : List Row, (ys.flatMap rowC).take k = (ys.take k).flatMap rowC := by
 induction k with
 | zero => intro ys; rfl
 | succ k ih =>
  intro ys
  cases ys with
  | nil => rfl
  | cons y ys => rw [List.flatMap_cons, List.take_succ_cons, List.flatMap_cons, ← ih ys]; rfl
theorem comp_take {l : List (List Int)} {j : Nat} (h : compactL (l.take j) = l.take j) {x y : List Int} (hp : 0 < j) (hy : l[j - 1]? = some y) (hx : l[j]? = some x) : compactL (l.take (j + 1)) = if x = y then l.take j else l.take (j + 1) := by
 have e1 : l.take j = l.take (j - 1) ++ [y] := by
  have := List.take_add_one (l := l) (i := j - 1)
  rw [show j - 1 + 1 = j by omega, hy] at this
  exact this
 have e2 : l.take (j + 1) = l.take (j - 1) ++ [y, x] := by rw [List.take_add_one, hx, e1]; simp
 rw [e2, compact_snoc, ← e1, h, e1]
 by_cases e : x = y
 ·rw [if_pos e.symm, if_pos e]
 ·rw [if_neg (Ne.symm e), if_neg e, List.append_assoc]; rfl
theorem comp_more {l : List (List Int)} {j : Nat} {x y : List Int} (hp : 0 < j) (hy : l[j - 1]? = some y) (hx : l[j]? = some x) : compactL (l.take (j + 1)) = if x = y then compactL (l.take j) else compactL (l.take j) ++ [x] := by
 have e1 : l.take j = l.take (j - 1) ++ [y] := by
  have := List.take_add_one (l := l) (i := j - 1)
  rw [show j - 1 + 1 = j by omega, hy] at this
  exact this
 have e2 : l.take (j + 1) = l.take (j - 1) ++ [y, x] := by rw [List.take_add_one, hx, e1]; simp
 rw [e2, compact_snoc, ← e1]
 by_cases e : x = y
 ·rw [if_pos e.symm, if_pos e]
 ·rw [if_neg (Ne.symm e), if_neg e]
end
section
open Go.RowKit Go.Shelf
theorem set_front2 {ys l : List Row} {n j : Nat} {x : Row} (hnj : n < j) (hj : j < l.length) (hl : ys.length = l.length) (hd : ys.drop (j - 1) = l.drop (j - 1)) (hx : l[j]? = some x) : (ys.set n x).take (n + 1) = ys.take n ++ [x] ∧ (ys.set n x).drop j = l.drop j ∧ (ys.set n x).length = l.length := by
 refine ⟨?_, ?_, by simp [hl]⟩
 ·rw [List.take_add_one, List.take_set_of_le (by omega)]
  simp [List.getElem?_set, show n < ys.length by omega]
 ·rw [List.drop_set, if_pos (by omega)]
  have := congrArg (List.drop 1) hd
  rw [List.drop_drop, List.drop_drop, show j - 1 + 1 = j by omega] at this
  exact this
theorem next_drop {ys l : List Row} {j : Nat} (hj : 0 < j) (hd : ys.drop (j - 1) = l.drop (j - 1)) : ys.drop j = l.drop j := by
 have := congrArg (List.drop 1) hd
 rw [List.drop_drop, List.drop_drop, show j - 1 + 1 = j by omega] at this
 exact this
set_option maxHeartbeats 8000000 in
theorem compactLists_any (b off c : Nat) (S : Nat → Prop) (w : World) (gs : List Row) (hw : Win rowC 1 31 w (.slice (some ⟨b, off, none⟩) gs.length c) S gs) (hr : ∀ p ∈ gs, RowOff w b p) (hl : gs.length < 1000000000) :
 Calls Tryz.prog 164 #[.slice (some ⟨b, off, none⟩) gs.length c, .func (.func 165) #[] #[]] w fun e w' => ∃ gs' : List Row, e = .returned (.slice (some ⟨b, off, none⟩) gs'.length c) ∧ nums gs' = compactL (nums gs) ∧ (∀ p ∈ gs', p ∈ gs) ∧ Win rowC 1 31 w' (.slice (some ⟨b, off, none⟩) gs'.length c) S gs' ∧ Fr (fun i => i = b) w w' := by
 have hnc : gs.length ≤ c := by
  obtain ⟨a0, c0, e0, h, _⟩ := zS hw
  injection e0 with _ _ e3
  omega
 have hcm : c ≤ 9223372036854775807 := by
  rcases hw.2 with ⟨e0, _⟩ | ⟨g', off', cap, cur, e0, _, _, _, h2, _⟩
  ·cases e0
  ·injection e0 with _ _ e3
   simp only [maxLen] at h2
   omega
 have HW := zH hw
 have HR := zH hr
 clear hw hr
 by_cases h2 : gs.length < 2
 ·have e : compactL (nums gs) = nums gs := by
   match gs, h2 with
   | [], _ => rfl
   | [x], _ => rfl
  have HE := zH e
  have l2 : (gs.length : Int) < 2 := by omega
  clear e h2
  go_enter Tryz.func164, Tryz.ntmps164
  go_wp2
  go_ret
  exact ⟨gs, rfl, HE.out.symm, fun _ h => h, HW.out, fr_refl _ _⟩
 have l2 : ¬ (gs.length : Int) < 2 := by omega
 go_enter Tryz.func164, Tryz.ntmps164
 go_wp2
 go_loopw [5] (fun i W => ∃ n : Nat, i = .int .i64 n ∧ 0 < n ∧ n ≤ gs.length ∧ compactL ((nums gs).take n) = (nums gs).take n ∧ Below w.heap.size w W) (fun i _ => gs.length - (intOf i).toNat)
 case atStart =>
  refine ⟨1, rfl, by omega, by omega, ?_, Below.refl _ _⟩
  cases hq : nums gs with
  | nil => rfl
  | cons x l => cases l <;> rfl
 case round =>
  obtain ⟨k, rfl, hk0, hkl, hck, hB⟩ := hrel
  by_cases hlt : k < gs.length
  rotate_left
  ·obtain rfl : k = gs.length := by omega
   rw [← nums_len, List.take_length] at hck
   have HX := zH (zA hck hB)
   clear hck hB
   go_wp2
   go_ret
   exact ⟨gs, rfl, HX.out.1.symm, fun _ h => h, zM HW.out (zF (S := fun _ => False) HX.out.2) (fun _ _ h => h), zF HX.out.2⟩
  obtain ⟨p, hp⟩ : ∃ p, p = k - 1 := ⟨_, rfl⟩
  have hx := List.getElem?_eq_getElem hlt
  have hy := List.getElem?_eq_getElem (show p < gs.length by omega)
  have mx : gs[k] ∈ gs := List.getElem_mem hlt
  have my : gs[p]'(by omega) ∈ gs := List.getElem_mem _
  generalize gs[k] = x at hx mx
  generalize gs[p]'(by omega) = y at hy my
  have hwr := zM HW.out (zF (S := fun _ => False) hB) (fun _ _ h => h)
  have hb2 : Below wr.heap.size wr wr.drew := (Below.refl _ _).drew
  obtain ⟨vx, xs⟩ := x
  obtain ⟨vy, ys⟩ := y
  have rx := (HR.out _ mx).move (zF hB)
  have ry := (HR.out _ my).move (zF hB)
  obtain ⟨ax, cx, ex⟩ := rx.form
  obtain ⟨ay, cy, ey⟩ := ry.form
  dsimp only at ex ey
  subst ex
  subst ey
  have q1 : wr.cell? ⟨b, off + k, none⟩ = some (.slice ax xs.length cx) := by
   obtain ⟨_, _, e, _, hc⟩ := rd_at (win_rd row_len hwr) hx
   injection e with e
   injection e with e1 e2
   subst e1; subst e2
   have := hc 0 _ rfl
   simpa using this
  have q2 : wr.cell? ⟨b, off + p, none⟩ = some (.slice ay ys.length cy) := by
   obtain ⟨_, _, e, _, hc⟩ := rd_at (win_rd row_len hwr) hy
   injection e with e
   injection e with e1 e2
   subst e1; subst e2
   have := hc 0 _ rfl
   simpa using this
  have hwp : IntKind.i64.wrap ((k : Int) - 1) = (p : Int) := by rw [Go.IntWalk.i64_in _ (by omega)]; omega
  have n1 : (k : Int) < (gs.length : Int) := by omega
  have n2 : (p : Int) < (gs.length : Int) := by omega
  have HCM := zH (comp_take hck hk0 (nums_get (by rw [← hp]; exact hy)) (nums_get hx))
  have HC := zH (uniqueEq_any _ _ xs ys _ (rx.1.below hb2) (ry.1.below hb2))
  have HO := zH (zA hx (zA hy (zA hck (zA hB (zA hwr (zA hp hk0))))))
  replace q1 := zB hb2 q1
  replace q2 := zB hb2 q2
  have HB2 := zH hb2
  clear hx hy mx my rx ry hck hB hwr hb2 hp
  obtain ⟨g, hg⟩ : ∃ g, g = decide (xs = ys) := ⟨_, rfl⟩
  rw [← hg] at HC
  have HG := zH hg
  clear hg
  go_wp2
  go_region_held3 (fun W => W.cell? ⟨b, off + k, none⟩ = some (.slice ax xs.length cx) ∧ W.cell? ⟨b, off + p, none⟩ = some (.slice ay ys.length cy)) (first | exact ⟨q1, q2⟩ | exact ⟨zB hbJ q1, zB hbJ q2⟩ | go_keep) ((first | ((with_reducible refine HC.out.mono ?_); rintro _ wK ⟨rfl, hbJ⟩; have HBJ := zH hbJ) | fail))
  all_goals
   have hB3 := HO.out.2.2.2.1.trans ((HB2.out.trans (HBJ.out.mono HB2.out.size)).mono HO.out.2.2.2.1.size)
   have hw3 := zM HW.out (zF (S := fun _ => False) hB3) (fun _ _ h => h)
   have H3 := zH (zA hB3 hw3)
   clear hB3 hw3 hbJ q1 q2
   cases g with
   | false =>
    go_wp2
    go_roundw
    case rel => exact ⟨k + 1, by go_num, by omega, by omega, by rw [HCM.out, if_neg (of_decide_eq_false HG.out.symm)], H3.out.1⟩
    case measure => simp [intOf]; omega
   | true =>
    have m1 : (0 : Int) ≤ (k : Int) := by omega
    have m2 : (k : Int) ≤ (gs.length : Int) := by omega
    have m3 : (gs.length : Int) ≤ (c : Int) := by omega
    have m5 : (k : Int) ≤ (c : Int) := by omega
    have m4 : ¬ ((k : Int) = (c : Int)) := by omega
    have m6 : ¬ ((c : Int) = (k : Int)) := by omega
    go_wp2
    go_loopw [5, 7] (fun i j W => ∃ (n m : Nat) (zs : List Row), i = .int .i64 n ∧ j = .int .i64 m ∧ 0 < m ∧ n < k + m ∧ k + m ≤ gs.length ∧ zs.length = gs.length ∧ nums (zs.take n) = compactL ((nums gs).take (k + m)) ∧ zs.drop (k + m - 1) = gs.drop (k + m - 1) ∧ (∀ p ∈ zs, p ∈ gs) ∧ Win rowC 1 31 W (.slice (some ⟨b, off, none⟩) gs.length c) S zs ∧ Fr (fun i => i = b) w W) (fun _ j _ => gs.length - (intOf j).toNat)
    case atStart => exact ⟨k, 1, gs, rfl, rfl, by omega, by omega, by omega, rfl, by rw [HCM.out, if_pos (of_decide_eq_true HG.out.symm), nums, nums, List.map_take], rfl, fun _ h => h, H3.out.2, zF H3.out.1⟩
    case round =>
     obtain ⟨n, m, zs, rfl, rfl, hm0, hnm, hml, hzl, hzn, hzd, hzg, hwz, hF⟩ := hrel
     by_cases hlt2 : k + m < gs.length
     rotate_left
     ·obtain rfl : m = gs.length - k := by omega
      have hkm : k + (gs.length - k) = gs.length := by omega
      rw [hkm] at hzn
      rw [← nums_len gs, List.take_length] at hzn
      obtain ⟨cur, hS, hg, hcs, ht⟩ : ∃ cur, S b ∧ wr.heap[b]? = some (.cells cur 31 (0, 0)) ∧ off + c * 1 ≤ cur.size ∧ (cur.toList.drop off).take (gs.length * 1) = zs.flatMap rowC := by
       rcases hwz.2 with ⟨h1, _⟩ | ⟨g', off', cap, cur, hv, hS, hg, _, _, h3, h4⟩
       ·cases h1
       ·injection hv with e1 e2 e3
        injection e1 with e1
        injection e1 with e1 e4
        subst e1; subst e3; subst e4
        rw [hzl] at h4
        exact ⟨cur, hS, hg, h3, h4⟩
      have hcl := fun ty => run_clear_k (P := Tryz.prog) wr 44 ty 31 _ Tryz.underlying44 zero_list (by simp [Value.cells, Value.oneCell']) b (off + n) (gs.length - n) (c - n) cur hg (by omega) (by simp [Value.cells]; omega)
      have HCL := zH (zA hS (zA hg (zA hcs (zA ht (zA hzn (zA hF (zA hzl hzg)))))))
      have p1 : ¬ ((gs.length - k : Nat) : Int) < ((gs.length - k : Nat) : Int) := by omega
      have p2 : (n : Int) ≤ (gs.length : Int) := by omega
      have p3 : (n : Int) ≤ (c : Int) := by omega
      have p4 : ¬ ((n : Int) = (c : Int)) := by omega
      have p5 : ¬ ((c : Int) = (n : Int)) := by omega
      have p6 : (0 : Int) ≤ (n : Int) := by omega
      have HN := zH hnm
      clear hS hg hcs ht hzn hF hwz hzd hkm hzl hzg hml hnm hm0 hlt2
      go_wp2
      go_ret
      have hzl := HCL.out.2.2.2.2.2.2.1
      have hn := HN.out
      have hyl2 : (zs.take n).length = n := by rw [List.length_take]; omega
      refine ⟨zs.take n, by rw [hyl2]; rfl, HCL.out.2.2.2.2.1, (by intros; exact HCL.out.2.2.2.2.2.2.2 _ (List.mem_of_mem_take (by assumption))), ?_, zT HCL.out.2.2.2.2.2.1 (fr_setRow _ _ _) fun i _ h => h⟩
      refine ⟨by rw [flat_len row_len], .inr ⟨b, off, c, _, by rw [hyl2], HCL.out.1, setRow_heap _ _ _ _ _ _ HCL.out.2.1, by rw [hyl2]; omega, by unfold maxLen; omega, ?_, ?_⟩⟩
      ·have := HCL.out.2.2.1
       rw [spl_size (by simp [size_zeroCells, Value.cells]; omega)]
       exact this
      ·have := HCL.out.2.2.1
       rw [spl_list, hyl2, List.append_assoc, List.drop_append_of_le_length (by rw [List.length_take, Array.length_toList]; omega), List.drop_take, List.take_append_of_le_length (by rw [List.length_take, List.length_drop, Array.length_toList]; omega), show off + n - off = n by omega, Nat.mul_one, List.take_take, Nat.min_self, ← flat_take1, ← HCL.out.2.2.2.1, List.take_take, Nat.min_eq_left (by omega)]
     ·obtain ⟨pm, hpm⟩ : ∃ pm, pm = m - 1 := ⟨_, rfl⟩
      have hx := List.getElem?_eq_getElem hlt2
      have hy := List.getElem?_eq_getElem (show k + pm < gs.length by omega)
      have mx : gs[k + m] ∈ gs := List.getElem_mem hlt2
      have my : gs[k + pm]'(by omega) ∈ gs := List.getElem_mem _
      generalize gs[k + m] = x at hx mx
      generalize gs[k + pm]'(by omega) = y at hy my
      have hzx : zs[k + m]? = some x := by
       have := congrArg (fun l => l[1]?) hzd
       simp only [List.getElem?_drop] at this
       rw [show k + m - 1 + 1 = k + m by omega] at this
       rw [this]; exact hx
      have hzy : zs[k + pm]? = some y := by
       have := congrArg (fun l => l[0]?) hzd
       simp only [List.getElem?_drop] at this
       rw [show k + m - 1 + 0 = k + pm by omega] at this
       rw [this]; exact hy
      have hz0 := List.getElem?_eq_getElem (show n < zs.length by omega)
      generalize zs[n]'(by omega) = z0 at hz0
      obtain ⟨vx, xs2⟩ := x
      obtain ⟨vy, ys2⟩ := y
      have rx := (HR.out _ mx).move hF
      have ry := (HR.out _ my).move hF
      obtain ⟨ax2, cx2, ex⟩ := rx.form
      obtain ⟨ay2, cy2, ey⟩ := ry.form
      dsimp only at ex ey
      subst ex
      subst ey
      have q1 : wr.cell? ⟨b, off + k + m, none⟩ = some (.slice ax2 xs2.length cx2) := by
       obtain ⟨_, _, e, _, hc⟩ := rd_at (win_rd row_len (by rw [← hzl] at hwz; exact hwz)) hzx
       injection e with e
       injection e with e1 e2
       subst e1; subst e2
       have := hc 0 _ rfl
       rw [Nat.add_assoc]
       simpa using this
      have q2 : wr.cell? ⟨b, off + k + pm, none⟩ = some (.slice ay2 ys2.length cy2) := by
       obtain ⟨_, _, e, _, hc⟩ := rd_at (win_rd row_len (by rw [← hzl] at hwz; exact hwz)) hzy
       injection e with e
       injection e with e1 e2
       subst e1; subst e2
       have := hc 0 _ rfl
       rw [Nat.add_assoc]
       simpa using this
      have hwp2 : IntKind.i64.wrap ((m : Int) - 1) = (pm : Int) := by rw [Go.IntWalk.i64_in _ (by omega)]; omega
      have hwn : IntKind.i64.wrap ((n : Int) + 1) = (n : Int) + 1 := Go.IntWalk.i64_in _ (by omega)
      have p1 : (m : Int) < ((gs.length - k : Nat) : Int) := by omega
      have p2 : (pm : Int) < ((gs.length - k : Nat) : Int) := by omega
      have p3 : (n : Int) < (gs.length : Int) := by omega
      have p6 : (0 : Int) ≤ (n : Int) := by omega
      have hb5 : Below wr.heap.size wr wr.drew := (Below.refl _ _).drew
      have HC2 := zH (uniqueEq_any _ _ xs2 ys2 _ (rx.1.below hb5) (ry.1.below hb5))
      have HM := zH (comp_more (l := nums gs) (j := k + m) (by omega) (by rw [show k + m - 1 = k + pm by omega]; exact nums_get hy) (nums_get hx))
      have hsf := set_front2 hnm hlt2 hzl hzd hx
      have HZ := zH (zA hm0 (zA hnm (zA hml (zA hzl (zA hzn (zA hzd (zA hzg (zA hwz (zA hF (zA hz0 (zA mx (zA hsf (zA hx hlt2)))))))))))))
      replace q1 := zB hb5 q1
      replace q2 := zB hb5 q2
      have HB5 := zH hb5
      clear hx hy mx my rx ry hb5 hpm hm0 hnm hml hzl hzn hzd hzg hwz hF hz0 hzx hzy hsf hlt2
      obtain ⟨g2, hg2⟩ : ∃ g, g = decide (xs2 = ys2) := ⟨_, rfl⟩
      rw [← hg2] at HC2
      have HG2 := zH hg2
      clear hg2
      go_wp2
      go_region_held3 (fun W => W.cell? ⟨b, off + k + m, none⟩ = some (.slice ax2 xs2.length cx2) ∧ W.cell? ⟨b, off + k + pm, none⟩ = some (.slice ay2 ys2.length cy2)) (first | exact ⟨q1, q2⟩ | exact ⟨zB hbJ q1, zB hbJ q2⟩ | go_keep) ((first | ((with_reducible refine HC2.out.mono ?_); rintro _ wL ⟨rfl, hbJ⟩; have HBJ2 := zH hbJ; have HQ := zH (zB hbJ q1)) | fail))
      all_goals
       have hB6 := HB5.out.trans (HBJ2.out.mono HB5.out.size)
       have hq := HQ.out
       clear hbJ
       obtain ⟨hm0, hnm, hml, hzl, hzn, hzd, hzg, hwz, hF, hz0, mx, hsf, hx, hlt2⟩ := HZ.out
       have hw6 := zM hwz (zF (S := fun _ => False) hB6) (fun _ _ h => h)
       have hF6 := zT hF (zF (S := fun i => i = b) hB6) fun _ _ h => h
       cases g2 with
       | true =>
        have H6 := zH (zA hw6 hF6)
        clear hw6 hF6 hB6 hm0 hnm hml hzl hzn hzd hzg hwz hF hz0 mx hsf hx hlt2
        go_wp2
        go_roundw
        case rel =>
         obtain ⟨hm0, hnm, hml, hzl, hzn, hzd, hzg, hwz, hF, hz0, mx, hsf, hx, hlt2⟩ := HZ.out
         exact ⟨n, m + 1, zs, rfl, by go_num, by omega, by omega, by omega, hzl, by rw [← Nat.add_assoc, HM.out, if_pos (of_decide_eq_true HG2.out.symm)]; exact hzn, by rw [show k + (m + 1) - 1 = k + m by omega]; exact next_drop (by omega) hzd, hzg, H6.out.1, H6.out.2⟩
        case measure => simp [intOf]; obtain ⟨_, _, _, _, _, _, _, _, _, _, _, _, _, hlt2⟩ := HZ.out; omega
       | false =>
        have t0 := win_set row_len hw6 hzl (y := (.slice ax2 xs2.length cx2, xs2)) (u := .slice ax2 xs2.length cx2) (r := 0) hz0 (by decide) rfl
        have f0 := t0.2.2
        obtain ⟨g0, h0⟩ := Option.isSome_iff_exists.1 t0.2.1
        rw [Nat.add_zero, Nat.mul_one] at f0 h0
        have hw7 := t0.1
        rw [Nat.add_zero, Nat.mul_one] at hw7
        have H6 := zH (zA hw7 hF6)
        clear t0 hw7 hw6 hF6 hB6 hm0 hnm hml hzl hzn hzd hzg hwz hF hz0 mx hsf hx hlt2
        go_wp2
        go_roundw
        case rel =>
         obtain ⟨hm0, hnm, hml, hzl, hzn, hzd, hzg, hwz, hF, hz0, mx, hsf, hx, hlt2⟩ := HZ.out
         refine ⟨n + 1, m + 1, zs.set n (.slice ax2 xs2.length cx2, xs2), by go_num, by go_num, by omega, by omega, by omega, hsf.2.2, ?_, by rw [show k + (m + 1) - 1 = k + m by omega]; exact hsf.2.1, fun p hp => ?_, H6.out.1, zT H6.out.2 (fr_setCell wL ⟨b, off + n, none⟩ _) fun i _ h => h⟩
         ·rw [← Nat.add_assoc, HM.out, if_neg (of_decide_eq_false HG2.out.symm), hsf.1, nums, List.map_append, ← hzn]; rfl
         ·rcases List.mem_or_eq_of_mem_set hp with h | rfl
          ·exact hzg p h
          ·exact mx
        case measure => simp [intOf]; obtain ⟨_, _, _, _, _, _, _, _, _, _, _, _, _, hlt2⟩ := HZ.out; omega
end
section
open Go.RowKit Go.Shelf
def RowAt (w : World) (lo : Nat) (p : Row) : Prop := p.2 ≠ [] ∧ Rd intC 1 w p.1 p.2 ∧ ∀ i, some i = p.1.ownBlock → lo ≤ i ∧ ∃ cur q, w.heap[i]? = some (.cells cur 3 q)
def LL (w : World) (lo : Nat) (v : Value) (gs : List Row) : Prop := Win rowC 1 31 w v (fun i => lo ≤ i) gs ∧ ∀ p ∈ gs, RowAt w lo p
theorem RowAt.below {w W : World} {lo : Nat} {p : Row} (h : RowAt w lo p) (hb : Below w.heap.size w W) : RowAt W lo p := by
 refine ⟨h.1, h.2.1.below hb, fun i hi => ?_⟩
 obtain ⟨h1, cur, q, hg⟩ := h.2.2 i hi
 exact ⟨h1, cur, q, (hb.block i (Array.getElem?_eq_some_iff.1 hg).1).trans hg⟩
theorem RowAt.off {w : World} {lo b : Nat} {p : Row} (h : RowAt w lo p) {cur : Array Value} (hb : w.heap[b]? = some (.cells cur 31 (0, 0))) : RowOff w b p := by
 refine ⟨h.2.1, fun i hi e => ?_⟩
 obtain ⟨_, cur', q, hg⟩ := h.2.2 i hi
 rw [e, hb] at hg
 injection hg with hg
 injection hg with _ hg
 exact absurd hg (by decide)
theorem RowAt.move {w W : World} {lo b : Nat} {p : Row} (h : RowAt w lo p) {cur : Array Value} (hb : w.heap[b]? = some (.cells cur 31 (0, 0))) (hf : Fr (fun i => i = b) w W) : RowAt W lo p := by
 have ho := h.off hb
 refine ⟨h.1, rd_move h.2.1 hf ho.2, fun i hi => ?_⟩
 obtain ⟨h1, cur, q, hg⟩ := h.2.2 i hi
 exact ⟨h1, cur, q, (hf.block i (Array.getElem?_eq_some_iff.1 hg).1 (ho.2 i hi)).trans hg⟩
theorem RowAt.mono {w : World} {lo lo' : Nat} {p : Row} (h : RowAt w lo p) (hl : lo' ≤ lo) : RowAt w lo' p := ⟨h.1, h.2.1, fun i hi => ⟨by have := (h.2.2 i hi).1; omega, (h.2.2 i hi).2⟩⟩
theorem LL.below {w W : World} {lo : Nat} {v : Value} {gs : List Row} (h : LL w lo v gs) (hb : Below w.heap.size w W) : LL W lo v gs :=
 ⟨zM h.1 (zF (S := fun _ => False) hb) fun _ _ h => h, fun p hp => (h.2 p hp).below hb⟩
theorem LL.mono {w : World} {lo lo' : Nat} {v : Value} {gs : List Row} (h : LL w lo v gs) (hl : lo' ≤ lo) : LL w lo' v gs :=
 ⟨zN h.1 fun i hi => by omega, fun p hp => (h.2 p hp).mono hl⟩
theorem LL.nil (w : World) (lo : Nat) : LL w lo (.slice none 0 0) [] := ⟨win_nil _ _ _ _ _, fun p hp => by cases hp⟩
theorem LL.form {w : World} {lo : Nat} {v : Value} {gs : List Row} (h : LL w lo v gs) : ∃ a c, v = .slice a gs.length c ∧ gs.length ≤ c ∧ gs.length ≤ 9223372036854775807 := zS h.1
theorem LL.block {w : World} {lo : Nat} {b off n c : Nat} {gs : List Row} (h : LL w lo (.slice (some ⟨b, off, none⟩) n c) gs) : lo ≤ b ∧ ∃ cur, w.heap[b]? = some (.cells cur 31 (0, 0)) := by
 rcases h.1.2 with ⟨h1, _⟩ | ⟨g', off', cap, cur, hv, hS, hg, _⟩
 ·cases h1
 ·injection hv with e1
  injection e1 with e1
  injection e1 with e1
  subst e1
  exact ⟨hS, cur, hg⟩
theorem rl_lift {w : World} {b : Nat} : ∀ (gs : List Row), (∀ p ∈ gs, RowOff w b p) → ∃ gl : List (RL w b), gl.map (fun x => (x.enc, x.nums)) = gs
 | [], _ => ⟨[], rfl⟩
 | p :: gs, h => by
  obtain ⟨gl, e⟩ := rl_lift gs fun q hq => h q (List.mem_cons_of_mem _ hq)
  have hp := h p List.mem_cons_self
  refine ⟨(show RL w b from ⟨p, ⟨hp.1, fun i hi => .inr (hp.2 i hi)⟩⟩) :: gl, ?_⟩
  show (p.1, p.2) :: gl.map (fun x => (x.enc, x.nums)) = _
  rw [e]
theorem rl_flat {w : World} {b : Nat} (gl : List (RL w b)) : gl.flatMap (fun x => [x.enc]) = (gl.map fun x => (x.enc, x.nums)).flatMap rowC := by
 induction gl with
 | nil => rfl
 | cons x gl ih => rw [List.flatMap_cons, List.map_cons, List.flatMap_cons, ih]; rfl
theorem compactFunc_nil (w : World) : Calls Tryz.prog 164 #[.slice none 0 0, .func (.func 165) #[] #[]] w fun e w' => e = .returned (.slice none 0 0) ∧ w = w' := by
 go_enter Tryz.func164, Tryz.ntmps164
 go_wp2
 go_ret
 exact ⟨rfl, rfl⟩
theorem win_end {w : World} {b off n c : Nat} {S : Nat → Prop} {gs : List Row} (h : Win rowC 1 31 w (.slice (some ⟨b, off, none⟩) n c) S gs) (hn : gs.length = n) : Win rowC 1 31 w (.slice (some ⟨b, off, none⟩) n n) S gs := by
 obtain ⟨h0, h⟩ := h
 refine ⟨h0, ?_⟩
 rcases h with ⟨h1, _⟩ | ⟨g, o, cap, cur, hv, hS, hg, h1, h2, h3, h4⟩
 ·cases h1
 ·injection hv with e1 e2 e3
  subst e3
  exact .inr ⟨g, o, n, cur, by rw [e1, hn], hS, hg, by omega, by omega, by omega, h4⟩
set_option maxHeartbeats 1000000 in
theorem unique_any (v : Value) (lo : Nat) (w : World) (gs : List Row) (h : LL w lo v gs) (hl : gs.length < 1000000000) :
 Calls Tryz.prog 95 #[v] w fun e w' => ∃ (v' : Value) (gs' : List Row), e = .returned v' ∧ nums gs' = setO ordL (nums gs) ∧ LL w' lo v' gs' ∧ (∃ a, v' = .slice a gs'.length gs'.length) ∧ (∀ p ∈ gs', p ∈ gs) ∧ Fr (fun i => some i = v.ownBlock) w w' ∧ ∀ i, some i = v'.ownBlock → some i = v.ownBlock := by
 rcases h.1.2 with ⟨rfl, h0⟩ | ⟨b, off, c, cur, rfl, hS, hg, hnc, hm, hsz, _⟩
 ·have hg : gs = [] := List.eq_nil_of_length_eq_zero h0
  subst hg
  clear h h0
  go_enter Tryz.func95, Tryz.ntmps95
  go_wp2_with (first | (go_at_call 161; refine (Tryz.slices_SortFunc_none (α := Nat) none 0 _ _).mono ?_; rintro e w2 ⟨rfl, rfl⟩) | (go_at_call 164; refine (compactFunc_nil _).mono ?_; rintro e w2 ⟨rfl, rfl⟩) | (go_at_call 107; refine (clipL_nil _).mono ?_; rintro e w2 ⟨rfl, rfl⟩))
  go_ret
  exact ⟨_, [], rfl, rfl, LL.nil _ _, ⟨_, rfl⟩, fun _ h => h, fr_refl _ _, fun _ h => h⟩
 ·have hoff : ∀ p ∈ gs, RowOff w b p := fun p hp => (h.2 p hp).off hg
  obtain ⟨gl, egl⟩ := rl_lift gs hoff
  have hlen : gl.length = gs.length := by rw [← egl, List.length_map]
  have hwl : Win (fun x : RL w b => [x.enc]) 1 31 w (.slice (some ⟨b, off, none⟩) gl.length c) (fun i => lo ≤ i) gl := by
   refine (?_ : WinC _ _ _ _ _ _ _)
   rw [rl_flat, egl, hlen]
   exact h.1
  have HS := zH (sortLists_any b off c _ w gl hwl (by omega))
  rw [hlen] at HS
  have HH := zH (zA h (zA hoff (zA egl (zA hg (zA hlen (zA hS hnc))))))
  clear h hoff egl hg hlen hwl hS hm hsz hnc
  go_enter Tryz.func95, Tryz.ntmps95
  go_wp2_with fail
  refine HS.out.mono ?_
  rintro e w2 ⟨rfl, gl', hperm, hsorted, hwin, hfr⟩
  obtain ⟨h, hoff, egl, hg, hlen, hS, hnc⟩ := HH.out
  obtain ⟨gs', egs⟩ : ∃ gs' : List Row, gs' = gl'.map fun x => (x.enc, x.nums) := ⟨_, rfl⟩
  have hp2 : gs'.Perm gs := by rw [egs, ← egl]; exact hperm.map _
  have hl2 : gs'.length = gs.length := hp2.length_eq
  have hw2 : Win rowC 1 31 w2 (.slice (some ⟨b, off, none⟩) gs'.length c) (fun i => lo ≤ i) gs' := by
   refine (?_ : WinC _ _ _ _ _ _ _)
   rw [egs, ← rl_flat, List.length_map, show gl'.length = gs.length by rw [← hl2, egs, List.length_map]]
   have := hwin.1
   have h3 : WinC 1 31 w2 (.slice (some ⟨b, off, none⟩) gs.length c) (fun i => lo ≤ i) gl'.length (gl'.flatMap fun x => [x.enc]) := hwin
   rw [show gl'.length = gs.length by rw [← hl2, egs, List.length_map]] at h3
   exact h3
  have hoff2 : ∀ p ∈ gs', RowOff w2 b p := fun p hp => (hoff p (hp2.mem_iff.1 hp)).move hfr
  have hset := unique_set (l := nums gs) (s := nums gs') (hp2.map _) (by
   rw [nums, egs, List.map_map]
   exact List.pairwise_map.2 hsorted)
  have HC := zH (compactLists_any b off c _ w2 gs' hw2 hoff2 (by omega))
  rw [hl2] at HC
  have HF := zH (zA hfr (zA hset hp2))
  clear h hoff egl hg hlen hS hperm hsorted hwin hfr egs hp2 hl2 hw2 hoff2 hset
  go_wp2_with fail
  refine HC.out.mono ?_
  rintro e w3 ⟨gs3, rfl, hn3, hm3, hw3, hf3⟩
  obtain ⟨hfr, hset, hp2⟩ := HF.out
  have hle : gs3.length ≤ c := by
   obtain ⟨_, _, e, hh, _⟩ := zS hw3
   injection e with _ _ e
   omega
  have HK := zH (clipL_any b off gs3.length c hle w3)
  have H3 := zH (zA hn3 (zA hm3 (zA hw3 (zA hf3 hle))))
  clear hfr hset hp2 hn3 hm3 hw3 hf3 hle
  go_wp2_with (go_at_call 107; refine HK.out.mono ?_; rintro e w4 ⟨rfl, rfl⟩)
  go_ret
  obtain ⟨h, hoff, egl, hg, hlen, hS, hnc⟩ := HH.out
  obtain ⟨hfr, hset, hp2⟩ := HF.out
  obtain ⟨hn3, hm3, hw3, hf3, hle⟩ := H3.out
  have hfw : Fr (fun i => i = b) w w3 := zT hfr hf3 fun _ _ h => h
  refine ⟨_, gs3, rfl, hn3.trans hset, ⟨win_end hw3 rfl, fun p hp => (h.2 p (hp2.mem_iff.1 (hm3 p hp))).move hg hfw⟩, ⟨_, rfl⟩, fun p hp => hp2.mem_iff.1 (hm3 p hp), fr_mono hfw fun i hi => by rw [hi]; rfl, fun _ h => h⟩
end
end Go.Proofs.YtgiploddoffmjaaGreat
