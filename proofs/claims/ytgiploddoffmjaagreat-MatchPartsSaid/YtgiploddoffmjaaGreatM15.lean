/- My texts, joined: W80. -/
import Derived.Below
import Derived.BigQuiet
import Derived.ChangeKeysEq
import Derived.Deep.AppendLies
import Derived.Deep.DeepCutAuto
import Derived.Deep.LoopGhost
import Derived.Deep.QuietTactic
import Derived.Deep.RegionHeld
import Derived.Deep.RegionHeld3
import Derived.Deep.RegionLaw
import Derived.Defers
import Derived.Ground.Names2Prog
import Derived.Ground.Names8Prog
import Derived.Ground.SlsfProg
import Derived.Handy
import Derived.KernelRfl
import Derived.Laws.AppendOwn
import Derived.Laws.AppendOwnNone
import Derived.Laws.CopyRow
import Derived.Laws.Pointers
import Derived.Laws.StructEq
import Derived.Lib.Hide
import Derived.Lib.Overlaps
import Derived.LoopIn
import Derived.LoopN
import Derived.LoopNIn
import Derived.LoopTactic
import Derived.MapKept
import Derived.Maps.AppendAt
import Derived.Maps.OwnOps
import Derived.Maps.RangeRun
import Derived.Maps.RangeWalk
import Derived.Outline
import Derived.OwnWalk
import Derived.OwnWalkIn
import Derived.RangeFuncBound
import Derived.RangeFuncCalls
import Derived.RangeFuncLeaves
import Derived.RangeFuncNested
import Derived.Recover
import Derived.Shelf.Abstract
import Derived.Shelf.RegionOpen
import Derived.Shelf.SlGeneric
import Derived.Shelf.SlLaysF0
import Derived.Shelf.SlSortCmp.HeapSort1
import Derived.Shelf.SlSortCmp.Insertion
import Derived.Shelf.SlSortCmp.Insertion1
import Derived.Shelf.SlSortCmp.Median1
import Derived.Shelf.SlSortCmp.NoneTotal
import Derived.Shelf.SlSortCmp.PartialInsertion1
import Derived.Shelf.SlSortCmp.Partition1
import Derived.Shelf.SlSortCmp.PartitionEqual1
import Derived.Shelf.SlSortCmp.Pdq1
import Derived.Shelf.SlSortCmp.Pivot1
import Derived.Shelf.SlSortCmp.ReverseRange1
import Derived.Shelf.SlSortCmp.SiftDown1
import Derived.Shelf.SlSortCmp.Whole1
import Derived.Shelf.SlSortCmp.WholeK
import Derived.Shelf.Slices.In.SortNone
import Derived.Shelf.Small.Bits
import Derived.Shelf.Sort.Plain
import Derived.Shelf.Spec.SlicesGrow
import Derived.TacticsInMore
import Derived.Test.YtgiploddoffmjaaGreatProg
import Derived.WalkKit
import Derived.WalkLawsBesides
import Derived.WalkSpells
import Derived.Test.YtgiploddoffmjaaGreatM0
import Derived.Test.YtgiploddoffmjaaGreatM1
import Derived.Test.YtgiploddoffmjaaGreatM2
import Derived.Test.YtgiploddoffmjaaGreatM3
import Derived.Test.YtgiploddoffmjaaGreatM4
import Derived.Test.YtgiploddoffmjaaGreatM5
import Derived.Test.YtgiploddoffmjaaGreatM6
import Derived.Test.YtgiploddoffmjaaGreatM7
import Derived.Test.YtgiploddoffmjaaGreatM8
import Derived.Test.YtgiploddoffmjaaGreatM9
import Derived.Test.YtgiploddoffmjaaGreatM10
import Derived.Test.YtgiploddoffmjaaGreatM11
import Derived.Test.YtgiploddoffmjaaGreatM12
import Derived.Test.YtgiploddoffmjaaGreatM13
import Derived.Test.YtgiploddoffmjaaGreatM14
set_option linter.unusedVariables false
set_option linter.unusedSimpArgs false
set_option linter.unusedSectionVars false
set_option maxRecDepth 10000
namespace Go.Proofs.YtgiploddoffmjaaGreat
section
open Go.RowKit Go.Shelf
section
variable {l : List Ev} {m : List Int} {L : List Form} {al : Option Addr} {cl : Nat} {am : Option Addr} {cm B C r q : Nat}
set_option maxHeartbeats 16000000 in
theorem look_thn (hI : IsAt l m L al cl am cm B C r 103 q) (hinc : incI l m) (hcl : l.length ≤ cl) (hat : ∀ e ∈ l, 0 ≤ e.at_ ∧ e.at_ ≤ 200) (hl60 : l.length ≤ 60) (hm60 : m.length ≤ 1000) (a b : Form) (nn : Int) (t : Test) (o1 n1 : Int) (t1 : Test) (k1 : Pats) (o2 n2 : Int) (t2 : Test) (k2 : Pats) (v : Value) (n i k : Nat) (w : World)
 (hk : RdKB B w (.cons o1 t1 n1 k1 (.cons o2 t2 n2 k2 .nil)) v) (sa : shape a o1 t1 n1 k1) (sb : shape b o2 t2 n2 k2) (hsub : SubAt L n (.thn nn a b)) (hik : i ≤ k) (hkm : k ≤ m.length) (hq : (k - i) * 100 + fsize (.thn nn a b) < q + 1) (hck : CkAt l m L al cl am cm B C r w) (hsz : fsize (.thn nn a b) ≤ 12) (hL : L.length ≤ 1000) :
 Calls Tryz.prog 176 #[.pointer (some ⟨C, 0, none⟩), .agg (patA ⟨2, t, nn, .cons o1 t1 n1 k1 (.cons o2 t2 n2 k2 .nil)⟩ v), .int .i64 n, .int .i64 i, .int .i64 k] w (CkOut l m L al cl am cm B C r w (isP l m (.thn nn a b) i k)) := by
 have hcr := hck.cr
 have hCl := (Array.getElem?_eq_some_iff.1 hck.blk).1
 obtain ⟨M0, hM0, _⟩ := hck.known
 have hrl := hM0.lt
 have hnl := hsub.lt
 obtain ⟨bk, ok, ck, a1, c1, a2, c2, rfl, hbw, hc1, hc2, _, ⟨⟨d0, d1, d2, d3, d4, d5⟩, hk1⟩, ⟨⟨e0, e1, e2, e3, e4, e5⟩, hk2⟩⟩ := two_kids hk
 have sza := shape_size a _ _ _ _ sa
 rw [fsize] at hsz hq
 have hpa := fsize_pos a
 have hpb := fsize_pos b
 have hA := fun (j : Nat) (hj : i < j ∧ j ≤ k) W (h1 : RdKB B W k1 (.slice a1 k1.len c1)) h2 => hI a ⟨o1, t1, n1, k1⟩ (.slice a1 k1.len c1) (n + 1) i j W sa h1 hsub.thn1 (by omega) (by omega) (by omega) h2
 have hB := fun (j : Nat) (hj : i < j ∧ j < k) W (h1 : RdKB B W k2 (.slice a2 k2.len c2)) h2 => hI b ⟨o2, t2, n2, k2⟩ (.slice a2 k2.len c2) (n + 1 + fsize a) j k W sb h1 hsub.thn2 (by omega) (by omega) (by omega) h2
 have hw1 : IntKind.i64.wrap ((n : Int) + 1) = (n : Int) + 1 := Go.IntWalk.i64_in _ (by omega)
 have hw2 : IntKind.i64.wrap ((n : Int) + 1 + (1 + (k1.cnt : Int))) = (n : Int) + 1 + (1 + (k1.cnt : Int)) := Go.IntWalk.i64_in _ (by omega)
 have hw4 : IntKind.i64.wrap ((i : Int) + 1) = (i : Int) + 1 := Go.IntWalk.i64_in _ (by omega)
 rw [show ((n + 1 : Nat) : Int) = (n : Int) + 1 by omega] at hA
 rw [show ((n + 1 + fsize a : Nat) : Int) = (n : Int) + 1 + (1 + (k1.cnt : Int)) by omega] at hB
 rw [isP]
 obtain ⟨g, hg⟩ : ∃ g : Nat → Bool, g = fun j => linkAt l m nn none j && isP l m a i j && isP l m b j k := ⟨_, rfl⟩
 rw [← hg]
 have HP := zH (zA hck (zA hk1 hk2))
 have HQ := zH (zA hq (zA hsz sza))
 have HI := zH (zA hinc (zA hcl (zA hat (zA hl60 hg))))
 have hcnt : 1 + k1.cnt ≤ 1000 := by omega
 obtain ⟨_, h00, _, h01⟩ := num_at (i := 0) hinc (by cases m with | nil => exact absurd rfl hinc.1 | cons => simp)
 obtain ⟨bm, om, bl, ol, rfl, rfl, _, _⟩ := hck.num h00 h01
 clear hI hsub hk hM0 hq hsz sza sa sb hck hk1 hk2 hinc hg h00 h01 hat
 obtain ⟨t1s, t1l, t1h⟩ := t1
 obtain ⟨ts, tl, th⟩ := t
 obtain ⟨t2s, t2l, t2h⟩ := t2
 dsimp only [patA, Pats.len] at *
 have HA := zH hA
 have HB := zH hB
 clear hA hB
 have HD := zH (zA d0 (zA d1 (zA d2 (zA d3 (zA d4 (zA d5 (zA e0 (zA e1 (zA e2 (zA e3 (zA e4 e5)))))))))))
 clear d0 d1 d2 d3 d4 d5 e0 e1 e2 e3 e4 e5
 obtain ⟨bx, hbx⟩ : ∃ bx : Obj, bx = .cells #[.int .i64 2, .int .i64 ts, .int .i64 tl, .int .i64 th, .int .i64 nn, .slice (some ⟨bk, ok, none⟩) (0 + 1 + 1) ck] 27 := ⟨_, rfl⟩
 have hBl : B ≤ w.heap.size := by omega
 have hS : ∀ W, Fr (fun i => i = r) (w.alloc bx) W → (W.cell? ⟨w.heap.size, 0, none⟩ = some (.int .i64 2) ∧ W.cell? ⟨w.heap.size, 1, none⟩ = some (.int .i64 ts) ∧ W.cell? ⟨w.heap.size, 2, none⟩ = some (.int .i64 tl) ∧ W.cell? ⟨w.heap.size, 3, none⟩ = some (.int .i64 th) ∧ W.cell? ⟨w.heap.size, 4, none⟩ = some (.int .i64 nn) ∧ W.cell? ⟨w.heap.size, 5, none⟩ = some (.slice (some ⟨bk, ok, none⟩) (0 + 1 + 1) ck)) ∧ (W.cell? ⟨bk, ok, none⟩ = some (.int .i64 o1) ∧ W.cell? ⟨bk, ok + 1, none⟩ = some (.int .i64 t1s) ∧ W.cell? ⟨bk, ok + 2, none⟩ = some (.int .i64 t1l) ∧ W.cell? ⟨bk, ok + 3, none⟩ = some (.int .i64 t1h) ∧ W.cell? ⟨bk, ok + 4, none⟩ = some (.int .i64 n1) ∧ W.cell? ⟨bk, ok + 5, none⟩ = some (.slice a1 k1.len c1)) ∧ (W.cell? ⟨bk, ok + 6, none⟩ = some (.int .i64 o2) ∧ W.cell? ⟨bk, ok + 6 + 1, none⟩ = some (.int .i64 t2s) ∧ W.cell? ⟨bk, ok + 6 + 2, none⟩ = some (.int .i64 t2l) ∧ W.cell? ⟨bk, ok + 6 + 3, none⟩ = some (.int .i64 t2h) ∧ W.cell? ⟨bk, ok + 6 + 4, none⟩ = some (.int .i64 n2) ∧ W.cell? ⟨bk, ok + 6 + 5, none⟩ = some (.slice a2 k2.len c2)) ∧ RdKB B W k1 (.slice a1 k1.len c1) ∧ RdKB B W k2 (.slice a2 k2.len c2) := fun W hW => by
  have hWw : Fr (fun i => i = r) w W := zT (fr_alloc _ _ _) hW fun _ _ h => h
  have hx := (hW.block w.heap.size (by simp) (by omega)).trans (heap_alloc_new w bx)
  rw [hbx] at hx
  have hB := zO hWw hBl (fun i hi => by omega)
  obtain ⟨d0, d1, d2, d3, d4, d5, e0, e1, e2, e3, e4, e5⟩ := HD.out
  have kc : ∀ {o : Nat} {u : Value}, w.cell? ⟨bk, o, none⟩ = some u → W.cell? ⟨bk, o, none⟩ = some u := fun h => fr_cell hWw h (fun e => by have e : bk = r := e; omega)
  exact ⟨⟨zC hx 0, zC hx 1, zC hx 2, zC hx 3, zC hx 4, zC hx 5⟩, ⟨kc d0, kc d1, kc d2, kc d3, kc d4, kc d5⟩, ⟨kc e0, kc e1, kc e2, kc e3, kc e4, kc e5⟩, HP.out.2.1.keep hB, HP.out.2.2.keep hB⟩
 have HS := zH hS
 have h0 := HS.out _ (fr_refl _ _)
 have HCK := zH (fun W (h : Fr (fun i => i = r) (w.alloc bx) W) => (zT (fr_alloc _ _ _) h fun _ _ h => h : Fr (fun i => i = r) w W))
 subst hbx
 obtain ⟨⟨z0, z1, z2, z3, z4, z5⟩, ⟨d0, d1, d2, d3, d4, d5⟩, ⟨e0, e1, e2, e3, e4, e5⟩, hk1, hk2⟩ := h0
 have HK1 := zH (zA hk1 (HP.out.1.below (Below.refl w.heap.size w |>.alloc (Nat.le_refl _) (.cells #[.int .i64 2, .int .i64 ts, .int .i64 tl, .int .i64 th, .int .i64 nn, .slice (some ⟨bk, ok, none⟩) (0 + 1 + 1) ck] 27))))
 clear hS hk1 hk2
 go_enter Tryz.func176, Tryz.ntmps176
 go_wp2_with (
  go_at_call 225; refine (size_any ⟨o1, ⟨t1s, t1l, t1h⟩, n1, k1⟩ (.slice a1 k1.len c1) _ (HK1.out.1.wide (by simp; omega)) hcnt).mono ?_; rintro e w3 ⟨rfl, hb3⟩
  have hck3 := zH (zA (HK1.out.2.below hb3) (zF (S := fun i => i = r) hb3))
  clear z0 z1 z2 z3 z4 z5 d0 d1 d2 d3 d4 d5 e0 e1 e2 e3 e4 e5 hb3
  obtain ⟨⟨z0, z1, z2, z3, z4, z5⟩, ⟨d0, d1, d2, d3, d4, d5⟩, ⟨e0, e1, e2, e3, e4, e5⟩, hk1, hk2⟩ := HS.out _ hck3.out.2
  have HK3 := zH (zA hk1 hk2)
  clear hk1 hk2
  obtain ⟨⟨y0, y1, y2, y3, y4, y5⟩, _, ⟨x0, x1, x2, x3, x4, x5⟩, _⟩ := HS.out (w3.alloc (.cells #[.int .i64 2, .int .i64 ts, .int .i64 tl, .int .i64 th, .int .i64 nn, .slice (some ⟨bk, ok, none⟩) 2 ck] 27)) (zT hck3.out.2 (fr_alloc _ _ _) fun _ _ h => h))
 refine zX (G := fun W => Code.wp _ _ _ _ W) w3 _ _ fun wA hbA hzA hxA => ?_
 have hws := hck3.out.2.size
 rw [World.size_alloc] at hws
 have hFA : ∀ W, Fr (fun i => i = r) wA W → Fr (fun i => i = r) (w.alloc (.cells #[.int .i64 2, .int .i64 ts, .int .i64 tl, .int .i64 th, .int .i64 nn, .slice (some ⟨bk, ok, none⟩) (0 + 1 + 1) ck] 27)) W := fun W h => zT hck3.out.2 (zT (zF hbA) h fun _ _ h => h) fun _ _ h => h
 have hSB : ∀ W, Fr (fun i => i = r) wA W → W.cell? ⟨w3.heap.size, 0, none⟩ = some (.int .i64 o2) ∧ W.cell? ⟨w3.heap.size, 1, none⟩ = some (.int .i64 t2s) ∧ W.cell? ⟨w3.heap.size, 2, none⟩ = some (.int .i64 t2l) ∧ W.cell? ⟨w3.heap.size, 3, none⟩ = some (.int .i64 t2h) ∧ W.cell? ⟨w3.heap.size, 4, none⟩ = some (.int .i64 n2) ∧ W.cell? ⟨w3.heap.size, 5, none⟩ = some (.slice a2 k2.len c2) := fun W h => by
  have hx := (h.block w3.heap.size (by omega) (by omega)).trans hxA
  exact ⟨zC hx 0, zC hx 1, zC hx 2, zC hx 3, zC hx 4, zC hx 5⟩
 have hCA := hck3.out.1.below hbA
 have HFA := zH hFA
 have HSB := zH hSB
 clear hFA hSB hbA hxA z0 z1 z2 z3 z4 z5 d0 d1 d2 d3 d4 d5 e0 e1 e2 e3 e4 e5
 go_loopw [16] (fun i' W => ∃ j : Nat, i' = .int .i64 j ∧ i + 1 ≤ j ∧ (j ≤ k ∨ j = i + 1) ∧ (betw i j).any g = false ∧ Fr (fun i => i = r) wA W ∧ CkAt l m L (some ⟨bl, ol, none⟩) cl (some ⟨bm, om, none⟩) cm B C r W) (fun i' _ => k - (intOf i').toNat)
 case atStart => exact ⟨i + 1, rfl, by omega, .inr rfl, by rw [betw_nil (by omega)]; rfl, fr_refl _ _, hCA⟩
 case round =>
  obtain ⟨j, rfl, hj1, hj2, hgf, hF, hckj⟩ := hrel
  by_cases hlt : j < k
  rotate_left
  ·have hgk : (betw i k).any g = false := by
    by_cases h : j = k
    ·rw [← h]; exact hgf
    ·rw [betw_nil (by omega)]; rfl
   have HL := zH (zA hgk (zA hF hckj))
   have hle : ¬ (j : Int) < (k : Int) := by omega
   clear hgf hgk hF hckj hCA
   go_wp2
   go_ret
   exact ⟨ret_bool HL.out.1.symm, HCK.out _ (HFA.out _ HL.out.2.1), HL.out.2.2⟩
  obtain ⟨a0, hm0, hn0, hl0⟩ := num_at (i := j - 1) HI.out.1 (by omega)
  obtain ⟨an, hm1, hn1, hl1⟩ := num_at (i := j) HI.out.1 (by omega)
  obtain ⟨pp, hpp⟩ : ∃ pp, pp = j - 1 := ⟨_, rfl⟩
  rw [← hpp] at hm0 hn0
  obtain ⟨_, _, _, _, x1, x2, _, _, q0, _⟩ := hckj.num hm0 hl0
  injection x1 with x1; injection x1 with x1 x3; subst x1; subst x3
  injection x2 with x2; injection x2 with x2 x3; subst x2; subst x3
  obtain ⟨_, _, _, _, x1, x2, _, _, q1, _⟩ := hckj.num hm1 hl1
  injection x1 with x1; injection x1 with x1 x3; subst x1; subst x3
  injection x2 with x2; injection x2 with x2 x3; subst x2; subst x3
  have hwp : IntKind.i64.wrap ((j : Int) - 1) = (pp : Int) := by rw [Go.IntWalk.i64_in _ (by omega)]; omega
  have hwj : IntKind.i64.wrap ((j : Int) + 1) = (j : Int) + 1 := Go.IntWalk.i64_in _ (by omega)
  obtain ⟨rl, hrl0⟩ : ∃ rl, rl = linkAt l m nn none j := ⟨_, rfl⟩
  obtain ⟨ra, hra⟩ : ∃ ra, ra = isP l m a i j := ⟨_, rfl⟩
  obtain ⟨rb, hrb⟩ : ∃ rb, rb = isP l m b j k := ⟨_, rfl⟩
  have hgj : g j = (rl && ra && rb) := by rw [HI.out.2.2.2.2, hrl0, hra, hrb]
  have hsr : ∀ W, Fr (fun i => i = r) wr W → (W.cell? ⟨C, 0, none⟩ = some (.slice (some ⟨bl, ol, none⟩) l.length cl) ∧ W.cell? ⟨C, 1, none⟩ = some (.slice (some ⟨bm, om, none⟩) m.length cm)) ∧ (W.cell? ⟨bm, om + pp, none⟩ = some (.int .i64 a0) ∧ W.cell? ⟨bm, om + j, none⟩ = some (.int .i64 an)) ∧ (W.cell? ⟨w.heap.size, 4, none⟩ = some (.int .i64 nn) ∧ W.cell? ⟨w.heap.size, 5, none⟩ = some (.slice (some ⟨bk, ok, none⟩) (0 + 1 + 1) ck)) ∧ (W.cell? ⟨bk, ok, none⟩ = some (.int .i64 o1) ∧ W.cell? ⟨bk, ok + 1, none⟩ = some (.int .i64 t1s) ∧ W.cell? ⟨bk, ok + 2, none⟩ = some (.int .i64 t1l) ∧ W.cell? ⟨bk, ok + 3, none⟩ = some (.int .i64 t1h) ∧ W.cell? ⟨bk, ok + 4, none⟩ = some (.int .i64 n1) ∧ W.cell? ⟨bk, ok + 5, none⟩ = some (.slice a1 k1.len c1)) ∧ (W.cell? ⟨w3.heap.size, 0, none⟩ = some (.int .i64 o2) ∧ W.cell? ⟨w3.heap.size, 1, none⟩ = some (.int .i64 t2s) ∧ W.cell? ⟨w3.heap.size, 2, none⟩ = some (.int .i64 t2l) ∧ W.cell? ⟨w3.heap.size, 3, none⟩ = some (.int .i64 t2h) ∧ W.cell? ⟨w3.heap.size, 4, none⟩ = some (.int .i64 n2) ∧ W.cell? ⟨w3.heap.size, 5, none⟩ = some (.slice a2 k2.len c2)) := fun W hW => by
   have hw := zT hF hW fun _ _ h => h
   obtain ⟨⟨z0, z1, z2, z3, z4, z5⟩, ⟨d0, d1, d2, d3, d4, d5⟩, ⟨e0, e1, e2, e3, e4, e5⟩, hk1, hk2⟩ := HS.out W (HFA.out W hw)
   obtain ⟨y0, y1, y2, y3, y4, y5⟩ := HSB.out W hw
   obtain ⟨g0, g1, _⟩ := hckj.cells
   have kc : ∀ {b o : Nat} {u : Value}, b ≠ r → wr.cell? ⟨b, o, none⟩ = some u → W.cell? ⟨b, o, none⟩ = some u := fun hb h => fr_cell hW h hb
   have hbm : bm ≠ r := by have := hckj.nub bm rfl; omega
   exact ⟨⟨kc hcr.2 g0, kc hcr.2 g1⟩, ⟨kc hbm q0, kc hbm q1⟩, ⟨z4, z5⟩, ⟨d0, d1, d2, d3, d4, d5⟩, ⟨y0, y1, y2, y3, y4, y5⟩⟩
  have hfo : ∀ W, Below wr.heap.size wr W → Calls Tryz.prog 157 #[.slice (some ⟨bl, ol, none⟩) l.length cl, .int .i64 a0, .int .i64 an, .int .i64 nn, .pointer none] W fun e w' => e = .returned (.bool rl) ∧ Below W.heap.size W w' := fun W hW => by
   have := follows_any l (some ⟨bl, ol, none⟩) cl a0 an nn none none W (hckj.evs.below hW) HI.out.2.1 HI.out.2.2.1 HI.out.2.2.2.1 (rfl) hl1
   rw [hrl0, linkAt, ← hpp, hn0, hn1]
   exact this
  have ha5 : ∀ W, Below wr.heap.size wr W → Calls Tryz.prog 103 #[.pointer (some ⟨C, 0, none⟩), .agg #[.int .i64 o1, .int .i64 t1s, .int .i64 t1l, .int .i64 t1h, .int .i64 n1, .slice a1 k1.len c1], .int .i64 ((n : Int) + 1), .int .i64 i, .int .i64 j] W (CkOut l m L (some ⟨bl, ol, none⟩) cl (some ⟨bm, om, none⟩) cm B C r W ra) := fun W hW => by
   obtain ⟨⟨z0, z1, z2, z3, z4, z5⟩, ⟨d0, d1, d2, d3, d4, d5⟩, ⟨e0, e1, e2, e3, e4, e5⟩, hk1, hk2⟩ := HS.out W (HFA.out W (zT hF (zF hW) fun _ _ h => h))
   rw [hra]
   exact HA.out j ⟨by omega, by omega⟩ W hk1 (hckj.below hW)
  have hb6 : ∀ W, Fr (fun i => i = r) wr W → CkAt l m L (some ⟨bl, ol, none⟩) cl (some ⟨bm, om, none⟩) cm B C r W → Calls Tryz.prog 103 #[.pointer (some ⟨C, 0, none⟩), .agg #[.int .i64 o2, .int .i64 t2s, .int .i64 t2l, .int .i64 t2h, .int .i64 n2, .slice a2 k2.len c2], .int .i64 ((n : Int) + 1 + (1 + (k1.cnt : Int))), .int .i64 j, .int .i64 k] W (CkOut l m L (some ⟨bl, ol, none⟩) cl (some ⟨bm, om, none⟩) cm B C r W rb) := fun W hW hc => by
   obtain ⟨⟨z0, z1, z2, z3, z4, z5⟩, ⟨d0, d1, d2, d3, d4, d5⟩, ⟨e0, e1, e2, e3, e4, e5⟩, hk1, hk2⟩ := HS.out W (HFA.out W (zT hF hW fun _ _ h => h))
   rw [hrb]
   exact HB.out j ⟨by omega, by omega⟩ W hk2 hc
  have HSR := zH hsr
  have HFO := zH hfo
  have HA5 := zH ha5
  have HB6 := zH hb6
  have HL := zH (zA hgf (zA hF hckj))
  have HGJ := zH hgj
  have E157 := zH (enters_of Tryz.func157 (by kernel_rfl) rfl)
  have E103 := zH (enters_of Tryz.func103 (by kernel_rfl) rfl)
  have m1 : (j : Int) < (k : Int) := by omega
  have m2 : (pp : Int) < (m.length : Int) := by omega
  have m3 : (j : Int) < (m.length : Int) := by omega
  clear hgf hF hckj hsr hfo ha5 hb6 hrl0 hra hrb hgj hm0 hm1 hn0 hn1 q0 q1 hCA hpp hlt
  cases rl with
  | false =>
   go_wp2_with fail
   refine zR 42 (S := fun W => (W.cell? ⟨C, 0, none⟩ = some (.slice (some ⟨bl, ol, none⟩) l.length cl) ∧ W.cell? ⟨C, 1, none⟩ = some (.slice (some ⟨bm, om, none⟩) m.length cm)) ∧ (W.cell? ⟨bm, om + pp, none⟩ = some (.int .i64 a0) ∧ W.cell? ⟨bm, om + j, none⟩ = some (.int .i64 an)) ∧ (W.cell? ⟨w.heap.size, 4, none⟩ = some (.int .i64 nn) ∧ W.cell? ⟨w.heap.size, 5, none⟩ = some (.slice (some ⟨bk, ok, none⟩) (0 + 1 + 1) ck)) ∧ (W.cell? ⟨bk, ok, none⟩ = some (.int .i64 o1) ∧ W.cell? ⟨bk, ok + 1, none⟩ = some (.int .i64 t1s) ∧ W.cell? ⟨bk, ok + 2, none⟩ = some (.int .i64 t1l) ∧ W.cell? ⟨bk, ok + 3, none⟩ = some (.int .i64 t1h) ∧ W.cell? ⟨bk, ok + 4, none⟩ = some (.int .i64 n1) ∧ W.cell? ⟨bk, ok + 5, none⟩ = some (.slice a1 k1.len c1)) ∧ (W.cell? ⟨w3.heap.size, 0, none⟩ = some (.int .i64 o2) ∧ W.cell? ⟨w3.heap.size, 1, none⟩ = some (.int .i64 t2s) ∧ W.cell? ⟨w3.heap.size, 2, none⟩ = some (.int .i64 t2l) ∧ W.cell? ⟨w3.heap.size, 3, none⟩ = some (.int .i64 t2h) ∧ W.cell? ⟨w3.heap.size, 4, none⟩ = some (.int .i64 n2) ∧ W.cell? ⟨w3.heap.size, 5, none⟩ = some (.slice a2 k2.len c2))) (by kernel_rfl) (by kernel_rfl) rfl (HSR.out _ (zF ((Below.refl _ _).drew))) (fun hHeld => ?_)
   try simp only [List.reduceReplicate]
   repeat (first
    | refine takeA [] (h := ?_)
    | (refine callA [] (args := ?_) (R := ?_) (he := ?_) (hc := ?_) (hargs := ?_) (h := ?_)
       rotate_left 2
       first | (exact E103.out; exact HB6.out _ HF6.out.1 HF6.out.2; rfl; rintro e w7 ⟨rfl, hf7, hck7⟩; have h7 := zT HF6.out.1 hf7 fun _ _ h => h; refine .inl ⟨_, rfl, HSR.out _ h7, fun hHeld => ?_⟩; have HF7 := zH (zA h7 hck7); clear hf7 h7 hck7) | (exact E103.out; exact HA5.out _ HB5.out; rfl; rintro e w6 ⟨rfl, hf6, hck6⟩; have h6 : Fr (fun i => i = r) wr w6 := zT (zF HB5.out) hf6 fun _ _ h => h; refine .inl ⟨_, rfl, HSR.out _ h6, fun hHeld => ?_⟩; have HF6 := zH (zA h6 hck6); clear hf6 h6 hck6) | (exact E157.out; exact HFO.out _ ((Below.refl _ _).drew); rfl; rintro e w5 ⟨rfl, hb5⟩; have h5 : Below wr.heap.size wr w5 := (Below.refl _ _).drew.trans hb5; refine .inl ⟨_, rfl, HSR.out _ (zF h5), fun hHeld => ?_⟩; have HB5 := zH h5; clear hb5 h5)
       refine normA (h := ?_)))
   refine wpAnyH_done (by kernel_rfl) ?_ _
   clear hHeld
   go_wp2
   go_roundw
   case rel => exact ⟨j + 1, by go_num, by omega, .inl (by omega), betw_step (by omega) HL.out.1 HGJ.out, zT HL.out.2.1 (zF HB5.out) fun _ _ h => h, HL.out.2.2.below HB5.out⟩
   case measure => simp [intOf]; omega
  | true =>
   cases ra with
   | false =>
    go_wp2_with fail
    refine zR 42 (S := fun W => (W.cell? ⟨C, 0, none⟩ = some (.slice (some ⟨bl, ol, none⟩) l.length cl) ∧ W.cell? ⟨C, 1, none⟩ = some (.slice (some ⟨bm, om, none⟩) m.length cm)) ∧ (W.cell? ⟨bm, om + pp, none⟩ = some (.int .i64 a0) ∧ W.cell? ⟨bm, om + j, none⟩ = some (.int .i64 an)) ∧ (W.cell? ⟨w.heap.size, 4, none⟩ = some (.int .i64 nn) ∧ W.cell? ⟨w.heap.size, 5, none⟩ = some (.slice (some ⟨bk, ok, none⟩) (0 + 1 + 1) ck)) ∧ (W.cell? ⟨bk, ok, none⟩ = some (.int .i64 o1) ∧ W.cell? ⟨bk, ok + 1, none⟩ = some (.int .i64 t1s) ∧ W.cell? ⟨bk, ok + 2, none⟩ = some (.int .i64 t1l) ∧ W.cell? ⟨bk, ok + 3, none⟩ = some (.int .i64 t1h) ∧ W.cell? ⟨bk, ok + 4, none⟩ = some (.int .i64 n1) ∧ W.cell? ⟨bk, ok + 5, none⟩ = some (.slice a1 k1.len c1)) ∧ (W.cell? ⟨w3.heap.size, 0, none⟩ = some (.int .i64 o2) ∧ W.cell? ⟨w3.heap.size, 1, none⟩ = some (.int .i64 t2s) ∧ W.cell? ⟨w3.heap.size, 2, none⟩ = some (.int .i64 t2l) ∧ W.cell? ⟨w3.heap.size, 3, none⟩ = some (.int .i64 t2h) ∧ W.cell? ⟨w3.heap.size, 4, none⟩ = some (.int .i64 n2) ∧ W.cell? ⟨w3.heap.size, 5, none⟩ = some (.slice a2 k2.len c2))) (by kernel_rfl) (by kernel_rfl) rfl (HSR.out _ (zF ((Below.refl _ _).drew))) (fun hHeld => ?_)
    try simp only [List.reduceReplicate]
    repeat (first
     | refine takeA [] (h := ?_)
     | (refine callA [] (args := ?_) (R := ?_) (he := ?_) (hc := ?_) (hargs := ?_) (h := ?_)
        rotate_left 2
        first | (exact E103.out; exact HB6.out _ HF6.out.1 HF6.out.2; rfl; rintro e w7 ⟨rfl, hf7, hck7⟩; have h7 := zT HF6.out.1 hf7 fun _ _ h => h; refine .inl ⟨_, rfl, HSR.out _ h7, fun hHeld => ?_⟩; have HF7 := zH (zA h7 hck7); clear hf7 h7 hck7) | (exact E103.out; exact HA5.out _ HB5.out; rfl; rintro e w6 ⟨rfl, hf6, hck6⟩; have h6 : Fr (fun i => i = r) wr w6 := zT (zF HB5.out) hf6 fun _ _ h => h; refine .inl ⟨_, rfl, HSR.out _ h6, fun hHeld => ?_⟩; have HF6 := zH (zA h6 hck6); clear hf6 h6 hck6) | (exact E157.out; exact HFO.out _ ((Below.refl _ _).drew); rfl; rintro e w5 ⟨rfl, hb5⟩; have h5 : Below wr.heap.size wr w5 := (Below.refl _ _).drew.trans hb5; refine .inl ⟨_, rfl, HSR.out _ (zF h5), fun hHeld => ?_⟩; have HB5 := zH h5; clear hb5 h5)
        refine normA (h := ?_)))
    refine wpAnyH_done (by kernel_rfl) ?_ _
    clear hHeld
    go_wp2
    go_roundw
    case rel => exact ⟨j + 1, by go_num, by omega, .inl (by omega), betw_step (by omega) HL.out.1 HGJ.out, zT HL.out.2.1 (HF6.out.1) fun _ _ h => h, HF6.out.2⟩
    case measure => simp [intOf]; omega
   | true =>
    cases rb with
    | false =>
     go_wp2_with fail
     refine zR 42 (S := fun W => (W.cell? ⟨C, 0, none⟩ = some (.slice (some ⟨bl, ol, none⟩) l.length cl) ∧ W.cell? ⟨C, 1, none⟩ = some (.slice (some ⟨bm, om, none⟩) m.length cm)) ∧ (W.cell? ⟨bm, om + pp, none⟩ = some (.int .i64 a0) ∧ W.cell? ⟨bm, om + j, none⟩ = some (.int .i64 an)) ∧ (W.cell? ⟨w.heap.size, 4, none⟩ = some (.int .i64 nn) ∧ W.cell? ⟨w.heap.size, 5, none⟩ = some (.slice (some ⟨bk, ok, none⟩) (0 + 1 + 1) ck)) ∧ (W.cell? ⟨bk, ok, none⟩ = some (.int .i64 o1) ∧ W.cell? ⟨bk, ok + 1, none⟩ = some (.int .i64 t1s) ∧ W.cell? ⟨bk, ok + 2, none⟩ = some (.int .i64 t1l) ∧ W.cell? ⟨bk, ok + 3, none⟩ = some (.int .i64 t1h) ∧ W.cell? ⟨bk, ok + 4, none⟩ = some (.int .i64 n1) ∧ W.cell? ⟨bk, ok + 5, none⟩ = some (.slice a1 k1.len c1)) ∧ (W.cell? ⟨w3.heap.size, 0, none⟩ = some (.int .i64 o2) ∧ W.cell? ⟨w3.heap.size, 1, none⟩ = some (.int .i64 t2s) ∧ W.cell? ⟨w3.heap.size, 2, none⟩ = some (.int .i64 t2l) ∧ W.cell? ⟨w3.heap.size, 3, none⟩ = some (.int .i64 t2h) ∧ W.cell? ⟨w3.heap.size, 4, none⟩ = some (.int .i64 n2) ∧ W.cell? ⟨w3.heap.size, 5, none⟩ = some (.slice a2 k2.len c2))) (by kernel_rfl) (by kernel_rfl) rfl (HSR.out _ (zF ((Below.refl _ _).drew))) (fun hHeld => ?_)
     try simp only [List.reduceReplicate]
     repeat (first
      | refine takeA [] (h := ?_)
      | (refine callA [] (args := ?_) (R := ?_) (he := ?_) (hc := ?_) (hargs := ?_) (h := ?_)
         rotate_left 2
         first | (exact E103.out; exact HB6.out _ HF6.out.1 HF6.out.2; rfl; rintro e w7 ⟨rfl, hf7, hck7⟩; have h7 := zT HF6.out.1 hf7 fun _ _ h => h; refine .inl ⟨_, rfl, HSR.out _ h7, fun hHeld => ?_⟩; have HF7 := zH (zA h7 hck7); clear hf7 h7 hck7) | (exact E103.out; exact HA5.out _ HB5.out; rfl; rintro e w6 ⟨rfl, hf6, hck6⟩; have h6 : Fr (fun i => i = r) wr w6 := zT (zF HB5.out) hf6 fun _ _ h => h; refine .inl ⟨_, rfl, HSR.out _ h6, fun hHeld => ?_⟩; have HF6 := zH (zA h6 hck6); clear hf6 h6 hck6) | (exact E157.out; exact HFO.out _ ((Below.refl _ _).drew); rfl; rintro e w5 ⟨rfl, hb5⟩; have h5 : Below wr.heap.size wr w5 := (Below.refl _ _).drew.trans hb5; refine .inl ⟨_, rfl, HSR.out _ (zF h5), fun hHeld => ?_⟩; have HB5 := zH h5; clear hb5 h5)
         refine normA (h := ?_)))
     refine wpAnyH_done (by kernel_rfl) ?_ _
     clear hHeld
     go_wp2
     go_roundw
     case rel => exact ⟨j + 1, by go_num, by omega, .inl (by omega), betw_step (by omega) HL.out.1 HGJ.out, zT HL.out.2.1 (HF7.out.1) fun _ _ h => h, HF7.out.2⟩
     case measure => simp [intOf]; omega
    | true =>
     go_wp2_with fail
     refine zR 42 (S := fun W => (W.cell? ⟨C, 0, none⟩ = some (.slice (some ⟨bl, ol, none⟩) l.length cl) ∧ W.cell? ⟨C, 1, none⟩ = some (.slice (some ⟨bm, om, none⟩) m.length cm)) ∧ (W.cell? ⟨bm, om + pp, none⟩ = some (.int .i64 a0) ∧ W.cell? ⟨bm, om + j, none⟩ = some (.int .i64 an)) ∧ (W.cell? ⟨w.heap.size, 4, none⟩ = some (.int .i64 nn) ∧ W.cell? ⟨w.heap.size, 5, none⟩ = some (.slice (some ⟨bk, ok, none⟩) (0 + 1 + 1) ck)) ∧ (W.cell? ⟨bk, ok, none⟩ = some (.int .i64 o1) ∧ W.cell? ⟨bk, ok + 1, none⟩ = some (.int .i64 t1s) ∧ W.cell? ⟨bk, ok + 2, none⟩ = some (.int .i64 t1l) ∧ W.cell? ⟨bk, ok + 3, none⟩ = some (.int .i64 t1h) ∧ W.cell? ⟨bk, ok + 4, none⟩ = some (.int .i64 n1) ∧ W.cell? ⟨bk, ok + 5, none⟩ = some (.slice a1 k1.len c1)) ∧ (W.cell? ⟨w3.heap.size, 0, none⟩ = some (.int .i64 o2) ∧ W.cell? ⟨w3.heap.size, 1, none⟩ = some (.int .i64 t2s) ∧ W.cell? ⟨w3.heap.size, 2, none⟩ = some (.int .i64 t2l) ∧ W.cell? ⟨w3.heap.size, 3, none⟩ = some (.int .i64 t2h) ∧ W.cell? ⟨w3.heap.size, 4, none⟩ = some (.int .i64 n2) ∧ W.cell? ⟨w3.heap.size, 5, none⟩ = some (.slice a2 k2.len c2))) (by kernel_rfl) (by kernel_rfl) rfl (HSR.out _ (zF ((Below.refl _ _).drew))) (fun hHeld => ?_)
     try simp only [List.reduceReplicate]
     repeat (first
      | refine takeA [] (h := ?_)
      | (refine callA [] (args := ?_) (R := ?_) (he := ?_) (hc := ?_) (hargs := ?_) (h := ?_)
         rotate_left 2
         first | (exact E103.out; exact HB6.out _ HF6.out.1 HF6.out.2; rfl; rintro e w7 ⟨rfl, hf7, hck7⟩; have h7 := zT HF6.out.1 hf7 fun _ _ h => h; refine .inl ⟨_, rfl, HSR.out _ h7, fun hHeld => ?_⟩; have HF7 := zH (zA h7 hck7); clear hf7 h7 hck7) | (exact E103.out; exact HA5.out _ HB5.out; rfl; rintro e w6 ⟨rfl, hf6, hck6⟩; have h6 : Fr (fun i => i = r) wr w6 := zT (zF HB5.out) hf6 fun _ _ h => h; refine .inl ⟨_, rfl, HSR.out _ h6, fun hHeld => ?_⟩; have HF6 := zH (zA h6 hck6); clear hf6 h6 hck6) | (exact E157.out; exact HFO.out _ ((Below.refl _ _).drew); rfl; rintro e w5 ⟨rfl, hb5⟩; have h5 : Below wr.heap.size wr w5 := (Below.refl _ _).drew.trans hb5; refine .inl ⟨_, rfl, HSR.out _ (zF h5), fun hHeld => ?_⟩; have HB5 := zH h5; clear hb5 h5)
         refine normA (h := ?_)))
     refine wpAnyH_done (by kernel_rfl) ?_ _
     clear hHeld
     go_wp2
     go_ret
     exact ⟨ret_bool (betw_any (by omega) (by omega) HGJ.out).symm, HCK.out _ (HFA.out _ (zT HL.out.2.1 HF7.out.1 fun _ _ h => h)), HF7.out.2⟩
end
end
end Go.Proofs.YtgiploddoffmjaaGreat
