/- My texts, joined: W75, W12, Base5. -/
import Derived.Below
import Derived.BigQuiet
import Derived.Deep.AppendLies
import Derived.Deep.DeepCutAuto
import Derived.Deep.QuietTactic
import Derived.Deep.RegionHeld
import Derived.Deep.RegionHeld3
import Derived.Deep.RegionLaw
import Derived.Defers
import Derived.KernelRfl
import Derived.Laws.AppendOwn
import Derived.Laws.AppendOwnNone
import Derived.Laws.CopyRow
import Derived.Laws.Pointers
import Derived.Lib.Hide
import Derived.LoopIn
import Derived.LoopNIn
import Derived.LoopTactic
import Derived.MapKept
import Derived.Maps.AppendAt
import Derived.Maps.OwnOps
import Derived.Maps.RangeRun
import Derived.Maps.RangeWalk
import Derived.Outline
import Derived.OwnWalk
import Derived.OwnWalkIn
import Derived.RangeFuncBound
import Derived.RangeFuncCalls
import Derived.RangeFuncLeaves
import Derived.RangeFuncNested
import Derived.Recover
import Derived.Shelf.Abstract
import Derived.Shelf.RegionOpen
import Derived.Shelf.SlSortCmp.NoneTotal
import Derived.Shelf.SlSortCmp.WholeK
import Derived.TacticsInMore
import Derived.Test.YtgiploddoffmjaaGreatProg
import Derived.WalkKit
import Derived.WalkLawsBesides
import Derived.WalkSpells
import Derived.Test.YtgiploddoffmjaaGreatM0
import Derived.Test.YtgiploddoffmjaaGreatM1
import Derived.Test.YtgiploddoffmjaaGreatM2
import Derived.Test.YtgiploddoffmjaaGreatM3
import Derived.Test.YtgiploddoffmjaaGreatM4
import Derived.Test.YtgiploddoffmjaaGreatM5
import Derived.Test.YtgiploddoffmjaaGreatM6
set_option linter.unusedVariables false
set_option linter.unusedSimpArgs false
set_option linter.unusedSectionVars false
set_option maxRecDepth 10000
namespace Go.Proofs.YtgiploddoffmjaaGreat
section
open Go.RowKit Go.Shelf
attribute [local go_sem] Oper.semAt_some
attribute [local go_sem] run_store_fn
set_option maxRecDepth 100000 in
set_option maxHeartbeats 8000000 in
theorem size_any (x : Node) (v : Value) (w : World) (hr : RdK w x.ks v) (h1000 : 1 + x.ks.cnt ≤ 1000) :
 Calls Tryz.prog 225 #[.agg (patA x v)] w fun e w' => e = .returned (.int .i64 ((1 + x.ks.cnt : Nat) : Int)) ∧ Below w.heap.size w w' := by
 obtain ⟨N, hN⟩ : ∃ N : List (Nat × Node), N = (1, x) :: x.ks.nodes 2 := ⟨_, rfl⟩
 have HR := zH hr
 clear hr
 obtain ⟨op, ⟨ts, tl, th⟩, pn, ks⟩ := x
 dsimp only [patA] at *
 refine (callsIn_wide (n := 3)).1 ?_
 refine callsIn_of_wp_marks Tryz.func225 rfl trivial ?_ rfl
 simp only [Tryz.ntmps225, List.size_toArray, List.length_cons, List.length_nil, Nat.reduceAdd, Nat.reduceSub, Array.replicate_succ, Array.replicate_zero, List.push_toArray, List.append_toArray, List.nil_append, List.cons_append]
 gi_wp2_with (refine ⟨trivial, ?_⟩; gi_at_call 119; refine (callsIn_wide.2 (nodes_any ⟨op, ⟨ts, tl, th⟩, pn, ks⟩ v _)).mono ?_; rintro e w2 ⟨rfl, rfl⟩)
 generalize hWp : (World.alloc _ _) = Wp
 obtain ⟨hbp, hzp, hx0, hx1, hx4⟩ := three_box hWp
 clear hWp
 refine range_wide (by rfl) (enters_of Tryz.func183 (by kernel_rfl) rfl) ?_
 intro fn W1 hbW hzW hD hL1
 have hzpa := Nat.le_of_eq hzp
 have hzpb := Nat.le_of_eq hzp.symm
 have hzWa := Nat.le_of_eq hzW
 have hzWb := Nat.le_of_eq hzW.symm
 clear hzp hzW
 obtain ⟨REC, hREC, hL2⟩ : ∃ REC, REC = _ ∧ W1.heap[Wp.heap.size + 1]? = some (.loop REC) := ⟨_, rfl, hL1⟩
 clear hL1
 have hs3 := zC ((hbW.block _ (by omega)).trans hx1) 0
 have hf3 := zK ((hbW.block _ (by omega)).trans hx1) 0
 have hx4' := (hbW.block _ (by omega)).trans hx4
 have hBW : Below w.heap.size w W1 := hbp.trans (hbW.mono (by omega))
 obtain ⟨J, hJ⟩ : ∃ J : Nat → World → Prop, ∀ i W, J i W ↔ (W.cell? ⟨w.heap.size + 1, 0, none⟩ = some (.int .i64 (i : Nat)) ∧ W.frozen? ⟨w.heap.size + 1, 0, none⟩ = false) ∧ (W.heap[Wp.heap.size + 1]? = some (.loop REC) ∧ W.heap[Wp.heap.size]? = some (.deferred (some []))) ∧ i ≤ 1000 ∧ Below w.heap.size w W ∧ W1.heap.size ≤ W.heap.size := ⟨_, fun _ _ => Iff.rfl⟩
 refine (nodes1_in (Wp.heap.size + 1) w.heap.size (w.heap.size + 1 + 1) (fun j => j = w.heap.size + 1 ∨ j = Wp.heap.size + 1) J (fun _ => False) ⟨op, ⟨ts, tl, th⟩, pn, ks⟩ v W1 (by omega) (fun j hj => by omega) (fun i W h => by have := ((hJ _ _).1 h).2.2.1; omega) ?hJ ?hY ?h0 ?hr hx4' 2).mono ?hend
 case h0 => exact (hJ 0 W1).2 ⟨⟨hs3, hf3⟩, ⟨hL2, hD⟩, by omega, hBW, Nat.le_refl _⟩
 case hr => exact HR.out.keep hBW
 case hJ =>
  intro i W W' h hF
  obtain ⟨⟨g1, g2⟩, ⟨g3, g4⟩, g8, g9, g10⟩ := (hJ _ _).1 h
  refine (hJ _ _).2 ⟨⟨fr_cell hF g1 (fun h => by have h : W1.heap.size ≤ w.heap.size + 1 := h; omega), fr_frozen hF (by show w.heap.size + 1 < W.heap.size; omega) g2 (fun h => by have h : W1.heap.size ≤ w.heap.size + 1 := h; omega)⟩, ⟨(hF.block _ (by omega) (fun h => by have h : W1.heap.size ≤ Wp.heap.size + 1 := h; omega)).trans g3, (hF.block _ (by omega) (fun h => by have h : W1.heap.size ≤ Wp.heap.size := h; omega)).trans g4⟩, g8, g9.trans (zO hF (by have := g9.size; omega) fun i hi => by have hi : W1.heap.size ≤ i := hi; omega), by have := hF.size; omega⟩
 case hY =>
  intro m i x v' W hx hj hr' hDW
  obtain ⟨⟨g1, g2⟩, ⟨g3, g4⟩, g8, g9, g10⟩ := (hJ _ _).1 hj
  obtain ⟨d, ⟨o', ⟨ts', tl', th'⟩, n', k'⟩⟩ := x
  dsimp only [patA]
  have hil : i < ((1, (⟨op, ⟨ts, tl, th⟩, pn, ks⟩ : Node)) :: ks.nodes 2).length := (List.getElem?_eq_some_iff.1 hx).1
  rw [List.length_cons, nodes_length] at hil
  refine yield_wide g3 (by rw [hREC]; rfl) ?_
  have HX := zH (zA g4 g9)
  have HJI := zH hJ
  have hg3 := g3
  clear hJ hx hr' hj g3 g4 g9 hbp hx0 hx1 hx4 hbW hs3 hf3 hx4' hBW hD hL2
  rw [hREC]
  simp only [List.zip_toArray, List.zip_cons_cons, List.zip_nil_left, List.zip_nil_right, List.foldl_toArray, List.foldl_cons, List.foldl_nil, List.setIfInBounds_toArray, List.set_cons_succ, List.set_cons_zero]
  refine wpIn_skip ?_
  refine ⟨REC, hg3, by rw [hREC], ?_⟩
  refine named_put (by omega) fun W2 hF2 hL2 hz2 => ?_
  have hBwW := HX.out.2.size
  have n0 := fr_cell hF2 g1 (fun h => by have h : w.heap.size + 1 = Wp.heap.size + 1 := h; omega)
  have nf := fr_frozen hF2 (by show w.heap.size + 1 < W.heap.size; omega) g2 (fun h => by have h : w.heap.size + 1 = Wp.heap.size + 1 := h; omega)
  have hw1 : IntKind.i64.wrap ((i : Int) + 1) = (i : Int) + 1 := Go.IntWalk.i64_in _ (by omega)
  have HB := zH (zA hF2 (zA hL2 (zA nf hz2)))
  clear hF2 hL2 hg3 g1 g2
  gi_wp2
  have hF3 : Fr (fun j => j = w.heap.size + 1) W2 (W2.setCell ⟨w.heap.size + 1, 0, none⟩ (.int .i64 ((i : Int) + 1))) := fr_setCell W2 ⟨w.heap.size + 1, 0, none⟩ (.int .i64 ((i : Int) + 1))
  have n3 := World.cell?_setCell_same W2 ⟨w.heap.size + 1, 0, none⟩ (.int .i64 ((i : Int) + 1)) n0
  have nf3 : (W2.setCell ⟨w.heap.size + 1, 0, none⟩ (.int .i64 ((i : Int) + 1))).frozen? ⟨w.heap.size + 1, 0, none⟩ = false := (World.frozen?_setCell _ _ _ _).trans HB.out.2.2.1
  have nfx := nf
  have L3 := (hF3.block (Wp.heap.size + 1) (by omega) (fun h => by have h : Wp.heap.size + 1 = w.heap.size + 1 := h; omega)).trans HB.out.2.1
  generalize W2.setCell ⟨w.heap.size + 1, 0, none⟩ (.int .i64 ((i : Int) + 1)) = W3 at *
  have h3 := hF3.size
  refine round_end L3 fun W5 hF5 hL5 hz5 => ?_
  have hF45 : Fr (fun j => j = w.heap.size + 1 ∨ j = Wp.heap.size + 1) W W5 := zT (zT (fr_mono HB.out.1 fun j h => .inr h) (fr_mono hF3 fun j h => .inl h) fun _ _ h => h) (fr_mono hF5 fun j h => .inr h) fun _ _ h => h
  have n5 := fr_cell hF5 n3 (fun h => by have h : w.heap.size + 1 = Wp.heap.size + 1 := h; omega)
  have nf5 := fr_frozen hF5 (by show w.heap.size + 1 < W3.heap.size; omega) nf3 (fun h => by have h : w.heap.size + 1 = Wp.heap.size + 1 := h; omega)
  have d5 := (hF45.block Wp.heap.size (by omega) (fun h => by rcases h with h | h <;> omega)).trans HX.out.1
  have z5 := HB.out.2.2.2
  refine ⟨rfl, (HJI.out _ _).2 ⟨⟨by rw [show ((i + 1 : Nat) : Int) = (i : Int) + 1 by omega]; exact n5, nf5⟩, ⟨hL5.trans (by rw [hREC]), d5⟩, by omega, HX.out.2.trans (zO hF45 hBwW fun j h => by omega), by omega⟩, hF45⟩
 case hend =>
  rintro e W2 ⟨⟨v2, rfl⟩, hj | hx⟩
  ·obtain ⟨⟨g1, g2⟩, ⟨g3, g4⟩, g8, g9, g10⟩ := (hJ _ _).1 hj
   have HE := zH (zA g4 g9)
   clear hj g8 g4 g9 g2 hbp hx0 hx1 hx4 hbW hs3 hf3 hx4' hBW hD hL2 hJ
   refine ⟨_, _, run_endLoop g3 (by rw [hREC]; simp), ?_⟩
   rw [hREC]
   dsimp only
   refine named_put (by omega) fun W5 hF5 hL5 hz5 => ?_
   have r5 := fr_cell hF5 g1 (fun h => by have h : w.heap.size + 1 = Wp.heap.size + 1 := h; omega)
   have HF := zH (zA hF5 hL5)
   clear hF5 hL5 g3 g1 hREC
   gi_wp2
   have h9 := HE.out.2.size
   have hK := (HF.out.1.block Wp.heap.size (by omega) (fun h => by have h : Wp.heap.size = Wp.heap.size + 1 := h; omega)).trans HE.out.1
   refine ⟨by simp, .inl ⟨_, _, rfl, run_takeDeferred hK, ?_⟩⟩
   have hF7 : Fr (fun j => j = Wp.heap.size + 1 ∨ j = Wp.heap.size) W2 (W5.putObj Wp.heap.size (.deferred none)) := zT (fr_mono HF.out.1 fun j h => .inl h) (fr_putObj W5 Wp.heap.size (.deferred none)) fun j _ h => .inr h
   exact ⟨.int .i64 (1 + ks.cnt), by simp [results, Tryz.results225, go_sem], by simp, HE.out.2.trans (zO hF7 h9 fun j h => by omega)⟩
  ·exact hx.elim
end
section
open Go.RowKit Go.Shelf
theorem cmpL_nil (xs ys : List Int) (h : xs = [] ∨ ys = []) : cmpL xs ys = if xs.length < ys.length then -1 else if ys.length < xs.length then 1 else 0 := by
 rcases h with rfl | rfl
 ·cases ys <;> simp [cmpL]
 ·cases xs <;> simp [cmpL]
set_option maxHeartbeats 4000000 in
theorem compareL_any (v1 v2 : Value) (xs ys : List Int) (w : World) (h1 : Rd intC 1 w v1 xs) (h2 : Rd intC 1 w v2 ys) :
 Calls Tryz.prog 163 #[v1, v2] w fun e w' => e = .returned (.int .i64 (cmpL xs ys)) ∧ w = w' := by
 obtain ⟨a1, c1, rfl⟩ : ∃ a c, v1 = .slice a xs.length c := by obtain ⟨_, a, c, rfl, _⟩ := h1; exact ⟨a, c, rfl⟩
 obtain ⟨a2, c2, rfl⟩ : ∃ a c, v2 = .slice a ys.length c := by obtain ⟨_, a, c, rfl, _⟩ := h2; exact ⟨a, c, rfl⟩
 have l1 := h1.1
 have l2 := h2.1
 have R1 := zH h1
 have R2 := zH h2
 clear h1 h2
 go_enter Tryz.func163, Tryz.ntmps163
 go_wp2
 go_loopw [11] (fun i W => ∃ n : Nat, i = .int .i64 n ∧ n ≤ xs.length ∧ n ≤ ys.length ∧ cmpL (xs.drop n) (ys.drop n) = cmpL xs ys ∧ w = W) (fun i _ => xs.length - (intOf i).toNat)
 case atStart => exact ⟨0, rfl, by omega, by omega, rfl, rfl⟩
 case round =>
  obtain ⟨n, rfl, hn1, hn2, ho, rfl⟩ := hrel
  by_cases hx1 : n < xs.length
  ·have hx := List.getElem?_eq_getElem hx1
   generalize xs[n] = x at hx
   obtain ⟨b1, o1, rfl, _, hc1⟩ := rd_at R1.out hx
   have q1 : w.cell? ⟨b1, o1 + n * 1, none⟩ = some (.int .i64 x) := hc1 0 _ rfl
   rw [Nat.mul_one] at q1
   clear hc1
   have n2 : (n : Int) < (xs.length : Int) := by omega
   by_cases hy1 : n < ys.length
   ·have hy := List.getElem?_eq_getElem hy1
    generalize ys[n] = y at hy
    obtain ⟨b2, o2, rfl, _, hc2⟩ := rd_at R2.out hy
    have q2 : w.cell? ⟨b2, o2 + n * 1, none⟩ = some (.int .i64 y) := hc2 0 _ rfl
    rw [Nat.mul_one] at q2
    have n1 : ¬ (ys.length : Int) ≤ (n : Int) := by omega
    have HO := zH (zA (cmpL_both hx hy) ho)
    clear hc2 hx hy ho
    obtain ⟨r, hr⟩ : ∃ r, r = cmpP x y := ⟨_, rfl⟩
    have HC := zH (show Calls Tryz.prog 216 #[.int .i64 x, .int .i64 y] w fun e w' => e = .returned (.int .i64 r) ∧ w = w' from by rw [hr]; exact compare_any x y w)
    have HR := zH hr
    clear hr
    by_cases hr0 : r = 0
    ·have hd : (r != 0) = false := by simp [hr0]
     have HE := zH hr0
     clear hr0
     go_wp2_with (go_at_call 216; refine HC.out.mono ?_; rintro e w' ⟨rfl, rfl⟩)
     go_roundw
     case rel => exact ⟨n + 1, by go_num, by omega, by omega, by rw [← HO.out.2, HO.out.1, ← HR.out, if_neg (by simp [HE.out])], by trivial⟩
     case measure => simp [intOf]; omega
    ·have hd : (r != 0) = true := by simp [hr0]
     have HE := zH hr0
     clear hr0
     go_wp2_with (go_at_call 216; refine HC.out.mono ?_; rintro e w' ⟨rfl, rfl⟩)
     go_ret
     exact ⟨ret_int (by rw [← HO.out.2, HO.out.1, ← HR.out, if_pos HE.out]), rfl⟩
   ·have hyl : n = ys.length := by omega
    have hv : cmpL xs ys = 1 := by
     rw [← ho, hyl, List.drop_length, cmpL_nil _ _ (.inr rfl), if_neg (by simp), if_pos (by rw [List.length_drop, List.length_nil]; omega)]
    have HV := zH hv
    have n1 : (ys.length : Int) ≤ (n : Int) := by omega
    clear hv hyl ho hx
    go_wp2
    go_ret
    exact ⟨ret_int HV.out.symm, rfl⟩
  ·have hxl : n = xs.length := by omega
   have n2 : ¬ (n : Int) < (xs.length : Int) := by omega
   by_cases hlt : xs.length < ys.length
   ·have hv : cmpL xs ys = -1 := by
     rw [← ho, hxl, List.drop_length, cmpL_nil _ _ (.inl rfl), if_pos (by rw [List.length_drop, List.length_nil]; omega)]
    have HV := zH hv
    have n1 : (xs.length : Int) < (ys.length : Int) := by omega
    clear hv hxl ho
    go_wp2
    go_ret
    exact ⟨ret_int HV.out.symm, rfl⟩
   ·have hv : cmpL xs ys = 0 := by
     rw [← ho, hxl, List.drop_length, cmpL_nil _ _ (.inl rfl), if_neg (by rw [List.length_drop, List.length_nil]; omega), if_neg (by simp)]
    have HV := zH hv
    have n1 : ¬ (xs.length : Int) < (ys.length : Int) := by omega
    clear hv hxl ho
    go_wp2
    go_ret
    exact ⟨ret_int HV.out.symm, rfl⟩
theorem uniqueCmp_any (v1 v2 : Value) (xs ys : List Int) (w : World) (h1 : Rd intC 1 w v1 xs) (h2 : Rd intC 1 w v2 ys) :
 Calls Tryz.prog 162 #[v1, v2] w fun e w' => e = .returned (.int .i64 (cmpL xs ys)) ∧ w = w' := by
 have HC := zH (compareL_any v1 v2 xs ys w h1 h2)
 clear h1 h2
 go_enter Tryz.func162, Tryz.ntmps162
 go_wp2_with (go_at_call 163; refine HC.out.mono ?_; rintro e w' ⟨rfl, rfl⟩)
 go_ret
 exact ⟨rfl, rfl⟩
end
section
open Go.RowKit Go.Shelf Go.Sort
theorem heap_mapBlock_other (w : World) (blk : Nat) (f : Array Value → Array Value) {k : Nat} (h : k ≠ blk) : (mapBlock w blk f).heap[k]? = w.heap[k]? := by
 simp only [mapBlock, Array.getElem?_modify]
 rw [if_neg (fun e => h e.symm)]
theorem fr_putRow {α : Type} [Inhabited α] (enc : α → Value) (w : World) (n blk off : Nat) (d : Array α) (os : Array Obj) : Fr (fun i => i = blk) w (grow (putRow enc (Sort.ahead w n) blk off d) os) := by
 refine ⟨rfl, rfl, rfl, ?_, fun k hk hne => ?_⟩
 ·rw [size_grow]; simp [putRow, mapBlock, Sort.ahead]
 ·rw [heap_grow_old _ _ (by simp [putRow, mapBlock, Sort.ahead]; exact hk)]
  exact heap_mapBlock_other _ _ _ hne
theorem fr_sortK {α : Type} [Inhabited α] (enc : α → List Value) (k : Nat) (w : World) (blk off n : Nat) (d : Array α) (os : Array Obj) : Fr (fun i => i = blk) w (sortWorldK enc k w blk off n d os) := fr_putRow id w n blk off _ os
theorem holdsK_win {α : Type} [Inhabited α] {enc : α → List Value} {k e : Nat} (hk : ∀ x, (enc x).length = k) {w : World} {b off n c : Nat} {S : Nat → Prop} {xs : List α} (h : Win enc k e w (.slice (some ⟨b, off, none⟩) n c) S xs) (hn : xs.length = n) :
 HoldsK enc k w b off xs.toArray := by
 subst hn
 have hcells := winC_cells h
 have hfr : ∀ j, w.frozen? ⟨b, j, none⟩ = false := by
  rcases h.2 with ⟨hv, _⟩ | ⟨g, o, cap, cur, hv, hS, hg, _⟩
  ·simp at hv
  ·injection hv with h1 h2 h3
   injection h1 with h1
   injection h1 with h1 h4
   subst h1
   exact fun j => zK hg j
 intro j hj
 refine ⟨?_, hfr _⟩
 rw [size_flatK] at hj
 rw [get_flatK enc k _ j hj]
 have hj' : j < xs.length * k := by simpa using hj
 have hk0 : 0 < k := by rcases Nat.eq_zero_or_pos k with h0 | h0; subst h0; simp at hj'; exact h0
 have hq : j / k < xs.length := (Nat.div_lt_iff_lt_mul hk0).2 hj'
 have hr : j % k < k := Nat.mod_lt _ hk0
 have hx : xs[j / k]? = some xs[j / k] := List.getElem?_eq_getElem hq
 have hu : (enc xs[j / k])[j % k]? = some (enc xs[j / k])[j % k]! := by
  rw [List.getElem!_eq_getElem?_getD]
  rw [List.getElem?_eq_getElem (by rw [hk]; exact hr)]
  rfl
 have := flat_get hk xs _ _ hx _ _ hu
 rw [show j / k * k + j % k = j by rw [Nat.mul_comm]; exact Nat.div_add_mod j k] at this
 have h2 := hcells j _ this
 rw [h2]
 simp only [id]
 congr 2
 simp [hq]
theorem rd_holdsK {α : Type} [Inhabited α] {enc : α → List Value} {k : Nat} (hk : ∀ x, (enc x).length = k) {w : World} {b off c : Nat} {d : Array α} (h : HoldsK enc k w b off d) (hb : b < w.heap.size) (hl : d.size ≤ 9223372036854775807) :
 Rd enc k w (.slice (some ⟨b, off, none⟩) d.size c) d.toList := by
 refine ⟨by simpa using hl, some ⟨b, off, none⟩, c, by simp, fun _ => ⟨b, off, rfl, hb, fun i x hx j u hu => ?_⟩⟩
 have hi : i < d.size := by simpa using (List.getElem?_eq_some_iff.1 hx).1
 have hj : j < k := by have := (List.getElem?_eq_some_iff.1 hu).1; rwa [hk] at this
 have := (h.cell hi hj).1
 rw [this]
 have e : d[i]! = x := by
  have : d.toList[i]? = some x := hx
  rw [Array.getElem?_toList] at this
  simp [Array.getElem!_eq_getD, Array.getD_eq_getD_getElem?, this]
 rw [e, List.getElem!_eq_getElem?_getD, hu]
 rfl
end
end Go.Proofs.YtgiploddoffmjaaGreat
