/- My texts, joined: W3. -/
import Derived.Below
import Derived.BigQuiet
import Derived.Deep.AppendLies
import Derived.Deep.DeepCutAuto
import Derived.Deep.QuietTactic
import Derived.Deep.RegionHeld
import Derived.Deep.RegionHeld3
import Derived.Deep.RegionLaw
import Derived.KernelRfl
import Derived.Laws.AppendOwn
import Derived.Laws.AppendOwnNone
import Derived.Laws.CopyRow
import Derived.Lib.Hide
import Derived.LoopIn
import Derived.LoopNIn
import Derived.LoopTactic
import Derived.Maps.AppendAt
import Derived.Outline
import Derived.OwnWalk
import Derived.OwnWalkIn
import Derived.RangeFuncBound
import Derived.RangeFuncCalls
import Derived.RangeFuncLeaves
import Derived.RangeFuncNested
import Derived.Shelf.Abstract
import Derived.Shelf.RegionOpen
import Derived.TacticsInMore
import Derived.Test.YtgiploddoffmjaaGreatProg
import Derived.WalkKit
import Derived.WalkSpells
import Derived.Test.YtgiploddoffmjaaGreatM0
import Derived.Test.YtgiploddoffmjaaGreatM1
import Derived.Test.YtgiploddoffmjaaGreatM2
import Derived.Test.YtgiploddoffmjaaGreatM3
import Derived.Test.YtgiploddoffmjaaGreatM4
set_option linter.unusedVariables false
set_option linter.unusedSimpArgs false
set_option linter.unusedSectionVars false
set_option maxRecDepth 10000
namespace Go.Proofs.YtgiploddoffmjaaGreat
section
open Go.RowKit Go.Shelf
attribute [local go_sem] Oper.semAt_some
attribute [local go_sem] run_store_fn
theorem round_leave {P : Program} {l : Nat} {R : Ending → World → Prop} {r : Loop} {a : Act} {w : World} (h : w.heap[l]? = some (.loop r)) (hk : ∀ W, Fr (fun i => i = l) w W → W.heap[l]? = some (.loop { r with state := .done, pending := some .ret }) → W.heap.size = w.heap.size → R (.returned (.bool false)) W) : roundPost P l R .ret a w :=
 ⟨_, _, run_endRound (some .ret) h, named_put (G := R (.returned (.bool false))) (Array.getElem?_eq_some_iff.1 h).1 hk⟩
theorem three_box {w W0 : World} {a b c : Array Value} {A B C : TypeId} (h : ((w.alloc (.cells a A)).alloc (.cells b B)).alloc (.cells c C) = W0) : Below w.heap.size w W0 ∧ W0.heap.size = w.heap.size + 3 ∧ W0.heap[w.heap.size]? = some (.cells a A (0, 0)) ∧ W0.heap[w.heap.size + 1]? = some (.cells b B (0, 0)) ∧ W0.heap[w.heap.size + 2]? = some (.cells c C (0, 0)) := by
 subst h
 exact named_box3 w a b c A B C (G := fun W0 => Below w.heap.size w W0 ∧ W0.heap.size = w.heap.size + 3 ∧ W0.heap[w.heap.size]? = some (.cells a A (0, 0)) ∧ W0.heap[w.heap.size + 1]? = some (.cells b B (0, 0)) ∧ W0.heap[w.heap.size + 2]? = some (.cells c C (0, 0))) fun W0 h1 h2 h3 h4 h5 => ⟨h1, h2, h3, h4, h5⟩
theorem five_box {w W0 : World} {a b c d e : Array Value} {A B C D E : TypeId} (h : ((((w.alloc (.cells a A)).alloc (.cells b B)).alloc (.cells c C)).alloc (.cells d D)).alloc (.cells e E) = W0) :
 Below w.heap.size w W0 ∧ W0.heap.size = w.heap.size + 5 ∧ W0.heap[w.heap.size]? = some (.cells a A (0, 0)) ∧ W0.heap[w.heap.size + 1]? = some (.cells b B (0, 0)) ∧ W0.heap[w.heap.size + 1 + 1]? = some (.cells c C (0, 0)) ∧ W0.heap[w.heap.size + 1 + 1 + 1]? = some (.cells d D (0, 0)) ∧ W0.heap[w.heap.size + 1 + 1 + 1 + 1]? = some (.cells e E (0, 0)) := by
 obtain ⟨b1, s1, h1, h2, h3⟩ := three_box (w := w) (a := a) (b := b) (c := c) (A := A) (B := B) (C := C) rfl
 obtain ⟨b2, s2, h4, h5⟩ := two_box h
 rw [s1] at b2 s2 h4 h5
 exact ⟨b1.trans (b2.mono (by omega)), by omega, (b2.block _ (by omega)).trans h1, (b2.block _ (by omega)).trans h2, (b2.block _ (by omega)).trans h3, h4, h5⟩
set_option maxRecDepth 100000 in
set_option maxHeartbeats 8000000 in
theorem isPat_any (x : Node) (v : Value) (srcs : Int) (hs : 1 ≤ srcs ∧ srcs ≤ 4) (w : World) (hr : RdK w x.ks v) :
 Calls Tryz.prog 139 #[.agg (patA x v), .int .i64 srcs] w fun e w' => e = .returned (.bool (patP srcs x.op x.t x.n x.ks)) ∧ Below w.heap.size w w' := by
 obtain ⟨N, hN⟩ : ∃ N : List (Nat × Node), N = (1, x) :: x.ks.nodes 2 := ⟨_, rfl⟩
 have hP := patP_nodes srcs x.op x.t x.n x.ks
 have HP := zH hP
 have HR := zH hr
 clear hP hr
 obtain ⟨op, ⟨ts, tl, th⟩, pn, ks⟩ := x
 dsimp only [patA] at *
 refine (callsIn_wide (n := 3)).1 ?_
 refine callsIn_of_wp_marks Tryz.func139 rfl trivial ?_ rfl
 simp only [Tryz.ntmps139, List.size_toArray, List.length_cons, List.length_nil, Nat.reduceAdd, Nat.reduceSub, Array.replicate_succ, Array.replicate_zero, List.push_toArray, List.append_toArray, List.nil_append, List.cons_append]
 gi_wp2_with (refine ⟨trivial, ?_⟩; gi_at_call 119; refine (callsIn_wide.2 (nodes_any ⟨op, ⟨ts, tl, th⟩, pn, ks⟩ v _)).mono ?_; rintro e w2 ⟨rfl, rfl⟩)
 generalize hWp : (World.alloc _ _) = Wp
 obtain ⟨hbp, hzp, hx0, hx1, hx2, hx3, hx4⟩ := five_box hWp
 clear hWp
 refine range_wide (by rfl) (enters_of Tryz.func183 (by kernel_rfl) rfl) ?_
 intro fn W1 hbW hzW hD hL1
 have hzpa := Nat.le_of_eq hzp
 have hzpb := Nat.le_of_eq hzp.symm
 have hzWa := Nat.le_of_eq hzW
 have hzWb := Nat.le_of_eq hzW.symm
 clear hzp hzW
 obtain ⟨REC, hREC, hL2⟩ : ∃ REC, REC = _ ∧ W1.heap[Wp.heap.size + 1]? = some (.loop REC) := ⟨_, rfl, hL1⟩
 clear hL1
 have hs1 := zC ((hbW.block _ (by omega)).trans hx1) 0
 have hs2 := zC ((hbW.block _ (by omega)).trans hx2) 0
 have hs3 := zC ((hbW.block _ (by omega)).trans hx3) 0
 have hf2 := zK ((hbW.block _ (by omega)).trans hx2) 0
 have hf3 := zK ((hbW.block _ (by omega)).trans hx3) 0
 have hx4' := (hbW.block _ (by omega)).trans hx4
 have hBW : Below w.heap.size w W1 := hbp.trans (hbW.mono (by omega))
 obtain ⟨J, hJ⟩ : ∃ J : Nat → World → Prop, ∀ i W, J i W ↔ (W.cell? ⟨w.heap.size + 1 + 1 + 1, 0, none⟩ = some (.int .i64 (i : Nat)) ∧ W.frozen? ⟨w.heap.size + 1 + 1 + 1, 0, none⟩ = false) ∧ (W.heap[Wp.heap.size + 1]? = some (.loop REC) ∧ W.heap[Wp.heap.size]? = some (.deferred (some []))) ∧ W.cell? ⟨w.heap.size + 1, 0, none⟩ = some (.int .i64 srcs) ∧ (W.cell? ⟨w.heap.size + 1 + 1, 0, none⟩ = some (.bool false) ∧ W.frozen? ⟨w.heap.size + 1 + 1, 0, none⟩ = false) ∧ (i ≤ 12 ∧ (N.take i).all (goodN srcs) = true) ∧ Below w.heap.size w W ∧ W1.heap.size ≤ W.heap.size := ⟨_, fun _ _ => Iff.rfl⟩
 obtain ⟨Jx, hJx⟩ : ∃ Jx : World → Prop, ∀ W, Jx W ↔ W.heap[Wp.heap.size + 1]? = some (.loop { REC with state := .done, pending := some .ret }) ∧ W.heap[Wp.heap.size]? = some (.deferred (some [])) ∧ W.cell? ⟨w.heap.size + 1 + 1, 0, none⟩ = some (.bool false) ∧ patP srcs op ⟨ts, tl, th⟩ pn ks = false ∧ Below w.heap.size w W ∧ W1.heap.size ≤ W.heap.size := ⟨_, fun _ => Iff.rfl⟩
 refine (nodes1_in (Wp.heap.size + 1) w.heap.size (w.heap.size + 1 + 1 + 1 + 1) (fun j => j = w.heap.size + 1 + 1 ∨ j = w.heap.size + 1 + 1 + 1 ∨ j = Wp.heap.size + 1) J Jx ⟨op, ⟨ts, tl, th⟩, pn, ks⟩ v W1 (by omega) (fun j hj => by omega) (fun i W h => by have := ((hJ _ _).1 h).2.2.2.2.1.1; omega) ?hJ ?hY ?h0 ?hr hx4' 2).mono ?hend
 case h0 => exact (hJ 0 W1).2 ⟨⟨hs3, hf3⟩, ⟨hL2, hD⟩, hs1, ⟨hs2, hf2⟩, ⟨by omega, rfl⟩, hBW, Nat.le_refl _⟩
 case hr => exact HR.out.keep hBW
 case hJ =>
  intro i W W' h hF
  obtain ⟨⟨g1, g2⟩, ⟨g3, g4⟩, g5, ⟨g6, g7⟩, g8, g9, g10⟩ := (hJ _ _).1 h
  refine (hJ _ _).2 ⟨⟨fr_cell hF g1 (fun h => by have h : W1.heap.size ≤ w.heap.size + 1 + 1 + 1 := h; omega), fr_frozen hF (by show w.heap.size + 1 + 1 + 1 < W.heap.size; omega) g2 (fun h => by have h : W1.heap.size ≤ w.heap.size + 1 + 1 + 1 := h; omega)⟩, ⟨(hF.block _ (by omega) (fun h => by have h : W1.heap.size ≤ Wp.heap.size + 1 := h; omega)).trans g3, (hF.block _ (by omega) (fun h => by have h : W1.heap.size ≤ Wp.heap.size := h; omega)).trans g4⟩, fr_cell hF g5 (fun h => by have h : W1.heap.size ≤ w.heap.size + 1 := h; omega), ⟨fr_cell hF g6 (fun h => by have h : W1.heap.size ≤ w.heap.size + 1 + 1 := h; omega), fr_frozen hF (by show w.heap.size + 1 + 1 < W.heap.size; omega) g7 (fun h => by have h : W1.heap.size ≤ w.heap.size + 1 + 1 := h; omega)⟩, g8, g9.trans (zO hF (by have := g9.size; omega) fun i hi => by have hi : W1.heap.size ≤ i := hi; omega), by have := hF.size; omega⟩
 case hY =>
  intro m i x v' W hx hj hr' hDW
  obtain ⟨⟨g1, g2⟩, ⟨g3, g4⟩, g5, ⟨g6, g7⟩, ⟨g8, g8'⟩, g9, g10⟩ := (hJ _ _).1 hj
  obtain ⟨d, ⟨o', ⟨ts', tl', th'⟩, n', k'⟩⟩ := x
  dsimp only [patA]
  obtain ⟨a', c', rfl⟩ : ∃ a' c', v' = .slice a' k'.len c' := by obtain ⟨a', c', h, _⟩ := hr'; exact ⟨a', c', h⟩
  refine yield_wide g3 (by rw [hREC]; rfl) ?_
  have HX := zH (zA hx (zA hr' (zA g3 (zA g4 (zA g8' g9)))))
  have HJI := zH hJ
  have HJX := zH hJx
  clear hJ hJx hx hr' hj g3 g4 g8' g9 hbp hx0 hx1 hx2 hx3 hx4 hbW hs1 hs2 hs3 hf2 hf3 hx4' hBW hD hL2
  rw [hREC]
  simp only [List.zip_toArray, List.zip_cons_cons, List.zip_nil_left, List.zip_nil_right, List.foldl_toArray, List.foldl_cons, List.foldl_nil, List.setIfInBounds_toArray, List.set_cons_succ, List.set_cons_zero]
  gi_wp2
  generalize hWq : W.alloc _ = Wq
  obtain ⟨hbq, hzq, hy⟩ : Below W.heap.size W Wq ∧ Wq.heap.size = W.heap.size + 1 ∧ Wq.heap[W.heap.size]? = some (.cells #[.int .i64 o', .int .i64 ts', .int .i64 tl', .int .i64 th', .int .i64 n', .slice a' k'.len c'] 27 (0, 0)) := by
   subst hWq
   exact ⟨(Below.refl _ _).alloc (Nat.le_refl _) _, by simp, heap_alloc_new _ _⟩
  clear hWq
  refine ⟨REC, (hbq.block _ (by omega)).trans HX.out.2.2.1, by rw [hREC], ?_⟩
  refine named_put (by omega) fun W2 hF2 hL2 hz2 => ?_
  have hFq : Fr (fun i => i = Wp.heap.size + 1) W W2 := zT (zF hbq) hF2 fun _ _ h => h
  have hBwW := HX.out.2.2.2.2.2.size
  have n0 := fr_cell hFq g1 (fun h => by have h : w.heap.size + 1 + 1 + 1 = Wp.heap.size + 1 := h; omega)
  have nf := fr_frozen hFq (by show w.heap.size + 1 + 1 + 1 < W.heap.size; omega) g2 (fun h => by have h : w.heap.size + 1 + 1 + 1 = Wp.heap.size + 1 := h; omega)
  have s0 := fr_cell hFq g5 (fun h => by have h : w.heap.size + 1 = Wp.heap.size + 1 := h; omega)
  have r0 := fr_cell hFq g6 (fun h => by have h : w.heap.size + 1 + 1 = Wp.heap.size + 1 := h; omega)
  have rf := fr_frozen hFq (by show w.heap.size + 1 + 1 < W.heap.size; omega) g7 (fun h => by have h : w.heap.size + 1 + 1 = Wp.heap.size + 1 := h; omega)
  have z0 : W2.cell? ⟨W.heap.size, 0, none⟩ = some (.int .i64 o') := fr_cell hF2 (zC hy 0) (fun h => by have h : W.heap.size = Wp.heap.size + 1 := h; omega)
  have z1 : W2.cell? ⟨W.heap.size, 1, none⟩ = some (.int .i64 ts') := fr_cell hF2 (zC hy 1) (fun h => by have h : W.heap.size = Wp.heap.size + 1 := h; omega)
  have z2 : W2.cell? ⟨W.heap.size, 2, none⟩ = some (.int .i64 tl') := fr_cell hF2 (zC hy 2) (fun h => by have h : W.heap.size = Wp.heap.size + 1 := h; omega)
  have z3 : W2.cell? ⟨W.heap.size, 3, none⟩ = some (.int .i64 th') := fr_cell hF2 (zC hy 3) (fun h => by have h : W.heap.size = Wp.heap.size + 1 := h; omega)
  have z4 : W2.cell? ⟨W.heap.size, 4, none⟩ = some (.int .i64 n') := fr_cell hF2 (zC hy 4) (fun h => by have h : W.heap.size = Wp.heap.size + 1 := h; omega)
  have z5 : W2.cell? ⟨W.heap.size, 5, none⟩ = some (.slice a' k'.len c') := fr_cell hF2 (zC hy 5) (fun h => by have h : W.heap.size = Wp.heap.size + 1 := h; omega)
  obtain ⟨W3, hW3⟩ : ∃ W3, W3 = W2.setCell ⟨w.heap.size + 1 + 1 + 1, 0, none⟩ (.int .i64 ((i : Int) + 1)) := ⟨_, rfl⟩
  have hF3 : Fr (fun j => j = w.heap.size + 1 + 1 + 1) W2 W3 := by rw [hW3]; exact fr_setCell W2 ⟨w.heap.size + 1 + 1 + 1, 0, none⟩ (.int .i64 ((i : Int) + 1))
  have hw1 : IntKind.i64.wrap ((i : Int) + 1) = (i : Int) + 1 := Go.IntWalk.i64_in _ (by omega)
  have t0 := fr_cell hF3 z0 (fun h => by have h : W.heap.size = w.heap.size + 1 + 1 + 1 := h; omega)
  have t1 := fr_cell hF3 z1 (fun h => by have h : W.heap.size = w.heap.size + 1 + 1 + 1 := h; omega)
  have t2 := fr_cell hF3 z2 (fun h => by have h : W.heap.size = w.heap.size + 1 + 1 + 1 := h; omega)
  have t3 := fr_cell hF3 z3 (fun h => by have h : W.heap.size = w.heap.size + 1 + 1 + 1 := h; omega)
  have t4 := fr_cell hF3 z4 (fun h => by have h : W.heap.size = w.heap.size + 1 + 1 + 1 := h; omega)
  have t5 := fr_cell hF3 z5 (fun h => by have h : W.heap.size = w.heap.size + 1 + 1 + 1 := h; omega)
  have s3 := fr_cell hF3 s0 (fun h => by have h : w.heap.size + 1 = w.heap.size + 1 + 1 + 1 := h; omega)
  have r3 := fr_cell hF3 r0 (fun h => by have h : w.heap.size + 1 + 1 = w.heap.size + 1 + 1 + 1 := h; omega)
  have rf3 := fr_frozen hF3 (by show w.heap.size + 1 + 1 < W2.heap.size; omega) rf (fun h => by have h : w.heap.size + 1 + 1 = w.heap.size + 1 + 1 + 1 := h; omega)
  have L3 := (hF3.block (Wp.heap.size + 1) (by omega) (fun h => by have h : Wp.heap.size + 1 = w.heap.size + 1 + 1 + 1 := h; omega)).trans hL2
  have n3 : W3.cell? ⟨w.heap.size + 1 + 1 + 1, 0, none⟩ = some (.int .i64 ((i : Int) + 1)) := by rw [hW3]; exact World.cell?_setCell_same W2 _ _ n0
  have nf3 : W3.frozen? ⟨w.heap.size + 1 + 1 + 1, 0, none⟩ = false := by rw [hW3]; exact (World.frozen?_setCell _ _ _ _).trans nf
  have hF13 : Fr (fun j => j = w.heap.size + 1 + 1 ∨ j = w.heap.size + 1 + 1 + 1 ∨ j = Wp.heap.size + 1) W W3 := zT (fr_mono hFq fun j h => .inr (.inr h)) hF3 fun j _ h => .inr (.inl h)
  have hz3 := hF13.size
  have hrk : RdK W3 k' (.slice a' k'.len c') := (HX.out.2.1.fr hF13 (by omega) (fun j h => by omega)).wide (by omega)
  have HN := zH (node_any srcs o' ⟨ts', tl', th'⟩ n' k' _ hs W3 hrk)
  have hil : i < ((1, (⟨op, ⟨ts, tl, th⟩, pn, ks⟩ : Node)) :: ks.nodes 2).length := (List.getElem?_eq_some_iff.1 HX.out.1).1
  have hmem := List.mem_of_getElem? HX.out.1
  have hbad : goodN srcs (d, ⟨o', ⟨ts', tl', th'⟩, n', k'⟩) = false → patP srcs op ⟨ts, tl, th⟩ pn ks = false := fun hg => by
   rw [HP.out, Bool.and_eq_false_iff]
   exact .inr (List.all_eq_false.2 ⟨_, hmem, by rw [hg]; simp⟩)
  have hlong : (12 : Int) < (i : Int) + 1 → patP srcs op ⟨ts, tl, th⟩ pn ks = false := fun hg => by
   rw [HP.out, decide_eq_false (by omega)]
   rfl
  have HB1 := zH (zA hbad (zA hlong (zA hF13 (zA L3 (zA n3 nf3)))))
  have hd := fun h6 : (6 : Int) < (d : Int) => HB1.out.1 (by rw [goodN, decide_eq_false (by omega)]; rfl)
  have leave : patP srcs op ⟨ts, tl, th⟩ pn ks = false → Hid (∀ (R : Ending → World → Prop) (aa : Act) (w6 : World), Fr (fun j => j = w.heap.size + 1 + 1 ∨ j = w.heap.size + 1 + 1 + 1 ∨ j = Wp.heap.size + 1) W w6 → w6.heap[Wp.heap.size + 1]? = some (.loop { REC with state := .busy }) → w6.cell? ⟨w.heap.size + 1 + 1, 0, none⟩ = some (.bool false) → (∀ W5, Jx W5 → R (.returned (.bool false)) W5) → roundPost Tryz.prog (Wp.heap.size + 1) R .ret aa w6) := fun hf => zH fun R aa w6 hF hl hc hR => by
   have hs6 := hF.size
   refine round_leave hl fun W5 hF5 hL5 hz5 => hR W5 ((HJX.out W5).2 ⟨hL5, ?_, fr_cell hF5 hc (fun h => by have h : w.heap.size + 1 + 1 = Wp.heap.size + 1 := h; omega), hf, ?_, by omega⟩)
   ·exact (hF5.block _ (by omega) (fun h => by have h : Wp.heap.size = Wp.heap.size + 1 := h; omega)).trans ((hF.block _ (by omega) (fun h => by rcases h with h | h | h <;> (have h : Wp.heap.size = _ := h; omega))).trans HX.out.2.2.2.1)
   ·exact HX.out.2.2.2.2.2.trans (zO (zT hF (fr_mono hF5 fun j h => .inr (.inr h)) fun _ _ h => h) hBwW fun j h => by omega)
  clear hbad hlong hF13 L3 n3 nf3 hrk hmem hF3 hFq hF2 hL2 hy hbq r0 rf s0 z0 z1 z2 z3 z4 z5 g1 g2 g5 g6 g7
  subst hW3
  have hdd : ∀ k : Nat, (Fence.wide.depth.isSome = true → 1 ≤ k) := fun k h => by simp [Fence.wide] at h
  by_cases h12 : (12 : Int) < (i : Int) + 1
  ·have LV := leave (HB1.out.2.1 h12)
   clear leave hd
   gi_wp2
   refine ⟨trivial, ?_⟩
   gi_wp2
   refine LV.out _ _ _ (zT HB1.out.2.2.1 (fr_mono (fr_setCell _ ⟨w.heap.size + 1 + 1, 0, none⟩ (.bool false)) fun j h => .inl h) fun _ _ h => h) (((fr_setCell _ ⟨w.heap.size + 1 + 1, 0, none⟩ (.bool false)).block _ (by omega) (fun h => by have h : Wp.heap.size + 1 = w.heap.size + 1 + 1 := h; omega)).trans HB1.out.2.2.2.1) (World.cell?_setCell_same _ _ _ r3) (fun W5 h => Or.inr ⟨rfl, h⟩)
  by_cases h6 : (6 : Int) < (d : Int)
  ·have LV := leave (hd h6)
   clear leave hd
   gi_wp2
   refine ⟨trivial, ?_⟩
   gi_wp2
   refine LV.out _ _ _ (zT HB1.out.2.2.1 (fr_mono (fr_setCell _ ⟨w.heap.size + 1 + 1, 0, none⟩ (.bool false)) fun j h => .inl h) fun _ _ h => h) (((fr_setCell _ ⟨w.heap.size + 1 + 1, 0, none⟩ (.bool false)).block _ (by omega) (fun h => by have h : Wp.heap.size + 1 = w.heap.size + 1 + 1 := h; omega)).trans HB1.out.2.2.2.1) (World.cell?_setCell_same _ _ _ r3) (fun W5 h => Or.inr ⟨rfl, h⟩)
  clear hd
  cases hg : nodeP srcs o' ⟨ts', tl', th'⟩ n' k' with
  | false =>
   have LV := leave (HB1.out.1 (by rw [goodN, hg, Bool.and_false]))
   clear leave
   gi_wp2_with (refine ⟨trivial, hdd _, ?_⟩; gi_at_call 194; refine (CallsIn.inRound _ (callsIn_wide.2 HN.out)).mono ?_; rintro e W4 ⟨rfl, hb4⟩; have r4 := zB hb4 r3; have rf4 := below_frozen hb4 (by show w.heap.size + 1 + 1 < _; omega) rf3)
   have h4 := hb4.size
   refine LV.out _ _ _ (zT (zT HB1.out.2.2.1 (zF hb4) fun _ _ h => h) (fr_mono (fr_setCell _ ⟨w.heap.size + 1 + 1, 0, none⟩ (.bool false)) fun j h => .inl h) fun _ _ h => h) (((fr_setCell _ ⟨w.heap.size + 1 + 1, 0, none⟩ (.bool false)).block _ (by omega) (fun h => by have h : Wp.heap.size + 1 = w.heap.size + 1 + 1 := h; omega)).trans ((hb4.block _ (by omega)).trans HB1.out.2.2.2.1)) (World.cell?_setCell_same _ _ _ r4) (fun W5 h => Or.inr ⟨rfl, h⟩)
  | true =>
   clear leave
   gi_wp2_with (refine ⟨trivial, hdd _, ?_⟩; gi_at_call 194; refine (CallsIn.inRound _ (callsIn_wide.2 HN.out)).mono ?_; rintro e W4 ⟨rfl, hb4⟩)
   have h4 := hb4.size
   have hF4 : Fr (fun j => j = w.heap.size + 1 + 1 ∨ j = w.heap.size + 1 + 1 + 1 ∨ j = Wp.heap.size + 1) W W4 := zT HB1.out.2.2.1 (zF hb4) fun _ _ h => h
   refine round_end ((hb4.block _ (by omega)).trans HB1.out.2.2.2.1) fun W5 hF5 hL5 hz5 => ?_
   have hF45 : Fr (fun j => j = w.heap.size + 1 + 1 ∨ j = w.heap.size + 1 + 1 + 1 ∨ j = Wp.heap.size + 1) W W5 := zT hF4 (fr_mono hF5 fun j h => .inr (.inr h)) fun _ _ h => h
   have n5 := fr_cell hF5 (zB hb4 HB1.out.2.2.2.2.1) (fun h => by have h : w.heap.size + 1 + 1 + 1 = Wp.heap.size + 1 := h; omega)
   have nf5 := fr_frozen hF5 (by show w.heap.size + 1 + 1 + 1 < W4.heap.size; omega) (below_frozen hb4 (by show w.heap.size + 1 + 1 + 1 < _; omega) HB1.out.2.2.2.2.2) (fun h => by have h : w.heap.size + 1 + 1 + 1 = Wp.heap.size + 1 := h; omega)
   have s5 := fr_cell hF5 (zB hb4 s3) (fun h => by have h : w.heap.size + 1 = Wp.heap.size + 1 := h; omega)
   have r5 := fr_cell hF5 (zB hb4 r3) (fun h => by have h : w.heap.size + 1 + 1 = Wp.heap.size + 1 := h; omega)
   have rf5 := fr_frozen hF5 (by show w.heap.size + 1 + 1 < W4.heap.size; omega) (below_frozen hb4 (by show w.heap.size + 1 + 1 < _; omega) rf3) (fun h => by have h : w.heap.size + 1 + 1 = Wp.heap.size + 1 := h; omega)
   have d5 := (hF45.block Wp.heap.size (by omega) (fun h => by rcases h with h | h | h <;> omega)).trans HX.out.2.2.2.1
   refine .inl ⟨rfl, (HJI.out _ _).2 ⟨⟨by rw [show ((i + 1 : Nat) : Int) = (i : Int) + 1 by omega]; exact n5, nf5⟩, ⟨hL5.trans (by rw [hREC]), d5⟩, s5, ⟨r5, rf5⟩, ⟨by omega, ?_⟩, HX.out.2.2.2.2.2.trans (zO hF45 hBwW fun j h => by omega), by omega⟩, hF45⟩
   have h1 := HX.out.1
   rw [← hN] at h1
   rw [List.take_add_one, h1, List.all_append, HX.out.2.2.2.2.1]
   simp only [Option.toList_some, List.all_cons, List.all_nil, Bool.and_true, Bool.true_and]
   rw [goodN, hg, decide_eq_true (by omega)]
   rfl
 case hend =>
  rintro e W2 ⟨⟨v2, rfl⟩, hj | hx⟩
  ·obtain ⟨⟨g1, g2⟩, ⟨g3, g4⟩, g5, ⟨g6, g7⟩, ⟨g8, g8'⟩, g9, g10⟩ := (hJ _ _).1 hj
   have hp : patP srcs op ⟨ts, tl, th⟩ pn ks = true := by
    have hl : N.length = 1 + ks.cnt := by rw [hN, List.length_cons, nodes_length]; omega
    dsimp only at g8 g8'
    rw [← hl, List.take_length] at g8'
    rw [HP.out, ← hN, g8', hl, decide_eq_true g8]
    rfl
   have HE := zH (zA hp (zA g4 g9))
   clear hp hj g8 g8' g4 g9 g1 g2 g5 hbp hx0 hx1 hx2 hx3 hx4 hbW hs1 hs2 hs3 hf2 hf3 hx4' hBW hD hL2 hJ hJx
   refine ⟨_, _, run_endLoop g3 (by rw [hREC]; simp), ?_⟩
   rw [hREC]
   dsimp only
   refine named_put (by omega) fun W5 hF5 hL5 hz5 => ?_
   have r5 := fr_cell hF5 g6 (fun h => by have h : w.heap.size + 1 + 1 = Wp.heap.size + 1 := h; omega)
   have rf5 := fr_frozen hF5 (by show w.heap.size + 1 + 1 < W2.heap.size; omega) g7 (fun h => by have h : w.heap.size + 1 + 1 = Wp.heap.size + 1 := h; omega)
   have HF := zH (zA hF5 r5)
   clear hF5 hL5 g3 g6 g7 hREC
   gi_wp2
   have c6 := World.cell?_setCell_same W5 ⟨w.heap.size + 1 + 1, 0, none⟩ (.bool true) HF.out.2
   have hF6 : Fr (fun j => j = w.heap.size + 1 + 1 ∨ j = Wp.heap.size + 1) W2 (W5.setCell ⟨w.heap.size + 1 + 1, 0, none⟩ (.bool true)) := zT (fr_mono HF.out.1 fun j h => .inr h) (fr_setCell W5 ⟨w.heap.size + 1 + 1, 0, none⟩ (.bool true)) fun _ _ h => .inl h
   generalize W5.setCell ⟨w.heap.size + 1 + 1, 0, none⟩ (.bool true) = W6 at *
   have h6 := hF6.size
   have h9 := HE.out.2.2.size
   have hK := (hF6.block Wp.heap.size (by omega) (fun h => by rcases h with h | h <;> omega)).trans HE.out.2.1
   have c7 : (W6.putObj Wp.heap.size (.deferred none)).cell? ⟨w.heap.size + 1 + 1, 0, none⟩ = some (.bool true) := fr_cell (fr_putObj _ _ _) c6 (fun h => by have h : w.heap.size + 1 + 1 = Wp.heap.size := h; omega)
   refine ⟨by simp, .inl ⟨_, _, rfl, run_takeDeferred hK, ?_⟩⟩
   have hF7 : Fr (fun j => j = w.heap.size + 1 + 1 ∨ j = Wp.heap.size + 1 ∨ j = Wp.heap.size) W2 (W6.putObj Wp.heap.size (.deferred none)) := zT (fr_mono hF6 fun j h => h.elim .inl fun h => .inr (.inl h)) (fr_putObj W6 Wp.heap.size (.deferred none)) fun j _ h => .inr (.inr h)
   exact ⟨.bool true, by simp [results, Tryz.results139, go_sem, c7], by rw [HE.out.1], HE.out.2.2.trans (zO hF7 h9 fun j h => by omega)⟩
  ·obtain ⟨g1, g2, g3, g4, g5, g6⟩ := (hJx _).1 hx
   have HE := zH (zA g4 (zA g2 g5))
   clear hx g4 g2 g5 hbp hx0 hx1 hx2 hx3 hx4 hbW hs1 hs2 hs3 hf2 hf3 hx4' hBW hD hL2 hJ hJx
   refine ⟨_, _, run_endLoop g1 (by simp), ?_⟩
   rw [hREC] at g1 ⊢
   dsimp only
   refine named_put (by omega) fun W5 hF5 hL5 hz5 => ?_
   have r5 := fr_cell hF5 g3 (fun h => by have h : w.heap.size + 1 + 1 = Wp.heap.size + 1 := h; omega)
   have HF := zH (zA hF5 r5)
   clear hF5 hL5 g3 g1 hREC r5
   gi_wp2
   have h6 := HF.out.1.size
   have h9 := HE.out.2.2.size
   have hK := (HF.out.1.block Wp.heap.size (by omega) (fun h => by have h : Wp.heap.size = Wp.heap.size + 1 := h; omega)).trans HE.out.2.1
   have c7 : (W5.putObj Wp.heap.size (.deferred none)).cell? ⟨w.heap.size + 1 + 1, 0, none⟩ = some (.bool false) := fr_cell (fr_putObj _ _ _) HF.out.2 (fun h => by have h : w.heap.size + 1 + 1 = Wp.heap.size := h; omega)
   refine ⟨by simp, .inl ⟨_, _, rfl, run_takeDeferred hK, ?_⟩⟩
   have hF7 : Fr (fun j => j = Wp.heap.size + 1 ∨ j = Wp.heap.size) W2 (W5.putObj Wp.heap.size (.deferred none)) := zT (fr_mono HF.out.1 fun j h => .inl h) (fr_putObj W5 Wp.heap.size (.deferred none)) fun j _ h => .inr h
   exact ⟨.bool false, by simp [results, Tryz.results139, go_sem, c7], by rw [HE.out.1], HE.out.2.2.trans (zO hF7 h9 fun j h => by omega)⟩
end
end Go.Proofs.YtgiploddoffmjaaGreat
