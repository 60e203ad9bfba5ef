/- My texts, joined: W6, W7, W35, N17, H0. -/
import Derived.Below
import Derived.BigQuiet
import Derived.ChangeKeysEq
import Derived.Deep.AppendLies
import Derived.Deep.CutBlock
import Derived.Deep.DeepCutAuto
import Derived.Deep.LoopGhost
import Derived.Deep.QuietTactic
import Derived.Deep.RegionHeld
import Derived.Deep.RegionHeld3
import Derived.Deep.RegionLaw
import Derived.Deep.Slices
import Derived.Defers
import Derived.Ground.Names2Prog
import Derived.Ground.Names8Prog
import Derived.Ground.SlsfProg
import Derived.Handy
import Derived.KernelRfl
import Derived.Laws.AppendOwn
import Derived.Laws.AppendOwnNone
import Derived.Laws.CopyRow
import Derived.Laws.Pointers
import Derived.Laws.StructEq
import Derived.Lib.Hide
import Derived.Lib.LaidU8
import Derived.Lib.Overlaps
import Derived.Lib.SmallJoins
import Derived.LoopIn
import Derived.LoopN
import Derived.LoopNIn
import Derived.LoopTactic
import Derived.MapKept
import Derived.Maps.AppendAt
import Derived.Maps.OwnOps
import Derived.Maps.RangeRun
import Derived.Maps.RangeWalk
import Derived.Outline
import Derived.OwnWalk
import Derived.OwnWalkIn
import Derived.ProofKit
import Derived.RangeFuncBound
import Derived.RangeFuncCalls
import Derived.RangeFuncLeaves
import Derived.RangeFuncNested
import Derived.Recover
import Derived.Shelf.Abstract
import Derived.Shelf.RegionOpen
import Derived.Shelf.SlGeneric
import Derived.Shelf.SlLaysF0
import Derived.Shelf.SlSortCmp.HeapSort1
import Derived.Shelf.SlSortCmp.Insertion
import Derived.Shelf.SlSortCmp.Insertion1
import Derived.Shelf.SlSortCmp.Median1
import Derived.Shelf.SlSortCmp.NoneTotal
import Derived.Shelf.SlSortCmp.PartialInsertion1
import Derived.Shelf.SlSortCmp.Partition1
import Derived.Shelf.SlSortCmp.PartitionEqual1
import Derived.Shelf.SlSortCmp.Pdq1
import Derived.Shelf.SlSortCmp.Pivot1
import Derived.Shelf.SlSortCmp.ReverseRange1
import Derived.Shelf.SlSortCmp.SiftDown1
import Derived.Shelf.SlSortCmp.Whole1
import Derived.Shelf.SlSortCmp.WholeK
import Derived.Shelf.Slices.In.SortNone
import Derived.Shelf.Small.Bits
import Derived.Shelf.Sort.Plain
import Derived.Shelf.Spec.SlicesGrow
import Derived.TacticsInMore
import Derived.Test.YtgiploddoffmjaaGreatProg
import Derived.WalkKit
import Derived.WalkLawsBesides
import Derived.WalkSpells
import Derived.Test.YtgiploddoffmjaaGreatM0
import Derived.Test.YtgiploddoffmjaaGreatM1
import Derived.Test.YtgiploddoffmjaaGreatM2
import Derived.Test.YtgiploddoffmjaaGreatM3
import Derived.Test.YtgiploddoffmjaaGreatM4
import Derived.Test.YtgiploddoffmjaaGreatM5
import Derived.Test.YtgiploddoffmjaaGreatM6
import Derived.Test.YtgiploddoffmjaaGreatM7
import Derived.Test.YtgiploddoffmjaaGreatM8
import Derived.Test.YtgiploddoffmjaaGreatM9
import Derived.Test.YtgiploddoffmjaaGreatM10
import Derived.Test.YtgiploddoffmjaaGreatM11
import Derived.Test.YtgiploddoffmjaaGreatM12
import Derived.Test.YtgiploddoffmjaaGreatM13
import Derived.Test.YtgiploddoffmjaaGreatM14
import Derived.Test.YtgiploddoffmjaaGreatM15
import Derived.Test.YtgiploddoffmjaaGreatM16
import Derived.Test.YtgiploddoffmjaaGreatM17
import Derived.Test.YtgiploddoffmjaaGreatM18
import Derived.Test.YtgiploddoffmjaaGreatM19
import Derived.Test.YtgiploddoffmjaaGreatM20
import Derived.Test.YtgiploddoffmjaaGreatM21
import Derived.Test.YtgiploddoffmjaaGreatM22
import Derived.Test.YtgiploddoffmjaaGreatM23
import Derived.Test.YtgiploddoffmjaaGreatM24
import Derived.Test.YtgiploddoffmjaaGreatM25
import Derived.Test.YtgiploddoffmjaaGreatM26
import Derived.Test.YtgiploddoffmjaaGreatM28
import Derived.Test.YtgiploddoffmjaaGreatXMatchMachine1
import Derived.Test.YtgiploddoffmjaaGreatXMatchMachine2
import Derived.Test.YtgiploddoffmjaaGreatXMatchMachine3
set_option linter.unusedVariables false
set_option linter.unusedSimpArgs false
set_option linter.unusedSectionVars false
set_option maxRecDepth 10000
namespace Go.Proofs.YtgiploddoffmjaaGreat
section
open Go.RowKit Go.Shelf
theorem refPat_all (srcs : Int) (hs : 1 ≤ srcs ∧ srcs ≤ 4) : ∀ (q : Nat) (x : Node) (v : Value) (deep nodes : Nat) (w : World), x.ks.cnt < q → deep ≤ 6 → nodes ≤ 12 → RdK w x.ks v →
 Calls Tryz.prog 148 #[.agg (patA x v), .int .i64 srcs, .int .i64 deep, .int .i64 nodes] w fun e w' => e = .returned (.int .i64 (refPat srcs x.op x.t x.n x.ks deep nodes)) ∧ Below w.heap.size w w' := by
 intro q
 induction q with
 | zero => intro x v deep nodes w h; omega
 | succ q ih =>
  intro x v deep nodes w hq hdp hn hr
  obtain ⟨op, ⟨ts, tl, th⟩, pn, ks⟩ := x
  have hv : ∃ a c, v = .slice a ks.len c := by obtain ⟨a, c, h, _⟩ := hr; exact ⟨a, c, h⟩
  show Calls Tryz.prog 148 #[.agg #[.int .i64 op, .int .i64 ts, .int .i64 tl, .int .i64 th, .int .i64 pn, v], .int .i64 srcs, .int .i64 deep, .int .i64 nodes] w fun e w' => e = .returned (.int .i64 (refPat srcs op ⟨ts, tl, th⟩ pn ks deep nodes)) ∧ Below w.heap.size w w'
  have bad : (nodes ≥ 12 ∨ deep = 0 ∨ nodeP srcs op ⟨ts, tl, th⟩ pn ks = false) → ((refPat srcs op ⟨ts, tl, th⟩ pn ks deep nodes : Nat) : Int) = 13 := fun h => by rw [refPat, if_pos h]; rfl
  by_cases h12 : 12 ≤ nodes
  ·rw [bad (.inl h12)]; exact refPat_full srcs op ts tl th pn ks deep nodes w v hv h12
  by_cases h0 : deep = 0
  ·rw [bad (.inr (.inl h0))]; exact refPat_deep srcs op ts tl th pn ks deep nodes w v hv (by omega) h0
  by_cases hl : (ks.len : Int) = kidsP op
  rotate_left
  ·rw [bad (.inr (.inr (by unfold nodeP; rw [decide_eq_false hl]; rfl)))]
   exact refPat_len srcs op ts tl th pn ks deep nodes w v hv (by omega) h0 hl
  cases hin : inP pn 0 200 with
  | false =>
   rw [bad (.inr (.inr (by unfold nodeP; rw [hin, Bool.and_false]; rfl)))]
   exact refPat_n srcs op ts tl th pn ks deep nodes w v hv (by omega) h0 hl hin
  | true =>
   have hop : op = 1 ∨ op = 2 ∨ op = 3 ∨ op = 4 ∨ op = 5 := by
    unfold kidsP at hl
    by_cases h1 : op = 1
    ·omega
    by_cases h4 : op = 4
    ·omega
    by_cases h23 : op = 2 ∨ op = 3
    ·omega
    by_cases h5 : op = 5
    ·omega
    rw [if_neg h1, if_neg h4, if_neg h23, if_neg h5] at hl
    omega
   obtain ⟨dp, rfl⟩ : ∃ dp, deep = dp + 1 := ⟨deep - 1, by omega⟩
   have hIH : ∀ (x : Node) (v : Value) (d n : Nat) (W : World), x.ks.cnt < ks.cnt → d ≤ 6 → n ≤ 12 → RdK W x.ks v → Calls Tryz.prog 148 #[.agg (patA x v), .int .i64 srcs, .int .i64 d, .int .i64 n] W fun e w' => e = .returned (.int .i64 (refPat srcs x.op x.t x.n x.ks d n)) ∧ Below W.heap.size W w' :=
    fun x v d n W h1 h2 h3 h4 => ih x v d n W (by have : ks.cnt < q + 1 := hq; omega) h2 h3 h4
   cases hg : nodeP srcs op ⟨ts, tl, th⟩ pn ks with
   | false =>
    rw [bad (.inr (.inr hg))]
    rcases hop with rfl | rfl | rfl | rfl | rfl
    ·exact refPat_bad1 srcs ts tl th pn ks (dp + 1) nodes w hs v hr (by omega) h0 (by have : kidsP 1 = 0 := rfl; omega) hin hg
    ·exact refPat_bad2 srcs ts tl th pn ks (dp + 1) nodes w hs v hr (by omega) h0 (by have : kidsP 2 = 2 := rfl; omega) hin hg
    ·exact refPat_bad3 srcs ts tl th pn ks (dp + 1) nodes w hs v hr (by omega) h0 (by have : kidsP 3 = 2 := rfl; omega) hin hg
    ·exact refPat_bad4 srcs ts tl th pn ks (dp + 1) nodes w hs v hr (by omega) h0 (by have : kidsP 4 = 1 := rfl; omega) hin hg
    ·exact refPat_bad5 srcs ts tl th pn ks (dp + 1) nodes w hs v hr (by omega) h0 (by have : kidsP 5 = 3 := rfl; omega) hin hg
   | true =>
    have e : refPat srcs op ⟨ts, tl, th⟩ pn ks (dp + 1) nodes = refPats srcs ks dp (nodes + 1) := by
     rw [refPat, if_neg (by rw [hg]; simp; omega)]
     rfl
    rw [e, show ((dp + 1 : Nat) : Int) = (dp : Int) + 1 by omega]
    rcases hop with rfl | rfl | rfl | rfl | rfl
    ·exact refPat_go1 srcs ts tl th pn ks dp nodes w hs v hr (by omega) (by omega) hg hIH
    ·exact refPat_go2 srcs ts tl th pn ks dp nodes w hs v hr (by omega) (by omega) hg hIH
    ·exact refPat_go3 srcs ts tl th pn ks dp nodes w hs v hr (by omega) (by omega) hg hIH
    ·exact refPat_go4 srcs ts tl th pn ks dp nodes w hs v hr (by omega) (by omega) hg hIH
    ·exact refPat_go5 srcs ts tl th pn ks dp nodes w hs v hr (by omega) (by omega) hg hIH
end
section
open Go.RowKit Go.Shelf
set_option maxHeartbeats 4000000 in
theorem refQuery_any (x : Node) (v : Value) (within : Int) (same : Bool) (srcs : Int) (w : World) (hr : RdK w x.ks v) :
 Calls Tryz.prog 85 #[.agg (queryA x v within same), .int .i64 srcs] w fun e w' => e = .returned (.bool (queryP srcs x within)) ∧ Below w.heap.size w w' := by
 have HQ := zH (show queryP srcs x within = (inP srcs 1 4 && patP srcs x.op x.t x.n x.ks && inP within 0 200) from rfl)
 have HR := zH hr
 obtain ⟨a, c, rfl, _, _, _⟩ := hr
 have HP := fun (hs : 1 ≤ srcs ∧ srcs ≤ 4) (W : World) (hb : Below w.heap.size w W) => refPat_all srcs hs (x.ks.cnt + 1) x (.slice a x.ks.len c) 6 0 W (by omega) (by omega) (by omega) (HR.out.below hb)
 have HE := zH (refPat_eq srcs x.op x.t x.n x.ks)
 obtain ⟨op, ⟨ts, tl, th⟩, pn, ks⟩ := x
 dsimp only [queryA, patA] at *
 cases hin : inP srcs 1 4 with
 | false =>
  have HIN := zH hin
  clear HP
  go_enter Tryz.func85, Tryz.ntmps85
  go_wp2_with (go_at_call 96; refine (refIn_any _ _ _ _).mono ?_; rintro e w' ⟨rfl, rfl⟩)
  go_ret
  exact ⟨ret_bool (by rw [HQ.out, HIN.out]; rfl), (Below.refl _ _).alloc (Nat.le_refl _) _⟩
 | true =>
  have hs : 1 ≤ srcs ∧ srcs ≤ 4 := by have := hin; unfold inP at this; simpa using this
  have HIN := zH hin
  have HPC := zH (HP hs)
  clear HP
  go_enter Tryz.func85, Tryz.ntmps85
  go_wp2_with fail
  refine zX (G := fun W => Calls _ _ _ W _) w _ _ fun w2 hb hz hx => ?_
  have c0 : w2.cell? ⟨w.heap.size, 0, none⟩ = some (.int .i64 op) := zC hx 0
  have c1 : w2.cell? ⟨w.heap.size, 1, none⟩ = some (.int .i64 ts) := zC hx 1
  have c2 : w2.cell? ⟨w.heap.size, 2, none⟩ = some (.int .i64 tl) := zC hx 2
  have c3 : w2.cell? ⟨w.heap.size, 3, none⟩ = some (.int .i64 th) := zC hx 3
  have c4 : w2.cell? ⟨w.heap.size, 4, none⟩ = some (.int .i64 pn) := zC hx 4
  have c5 : w2.cell? ⟨w.heap.size, 5, none⟩ = some (.slice a ks.len c) := zC hx 5
  have c6 : w2.cell? ⟨w.heap.size, 6, none⟩ = some (.int .i64 within) := zC hx 6
  clear hx hz
  refine (refIn_any _ _ _ _).mono ?_
  rintro e w1 ⟨rfl, rfl⟩
  rw [HIN.out]
  have hc := HPC.out w2 hb
  obtain ⟨R, hR⟩ : ∃ R, R = refPat srcs op ⟨ts, tl, th⟩ pn ks 6 0 := ⟨_, rfl⟩
  have he := HE.out
  rw [← hR] at hc he
  have HC := zH hc
  have HE2 := zH he
  have HB := zH hb
  clear hb hc he hR
  go_wp2_with fail
  refine HC.out.mono ?_
  rintro e w3 ⟨rfl, hb3⟩
  have d6 := zB hb3 c6
  have HB3 := zH hb3
  clear hb3
  by_cases h12 : R ≤ 12
  ·have h12i : (R : Int) ≤ 12 := by omega
   have hp : patP srcs op ⟨ts, tl, th⟩ pn ks = true := by rw [← HE2.out, decide_eq_true h12]
   have HPT := zH hp
   clear hp
   go_wp2_with (go_at_call 96; refine (refIn_any _ _ _ _).mono ?_; rintro e w' ⟨rfl, rfl⟩)
   go_ret
   exact ⟨ret_bool (by rw [HQ.out, HIN.out, HPT.out]; rfl), HB.out.trans (HB3.out.mono HB.out.size)⟩
  ·have h12i : ¬ (R : Int) ≤ 12 := by omega
   have hp : patP srcs op ⟨ts, tl, th⟩ pn ks = false := by rw [← HE2.out, decide_eq_false h12]
   have HPT := zH hp
   clear hp
   go_wp2
   go_ret
   exact ⟨ret_bool (by rw [HQ.out, HPT.out, Bool.and_false]; rfl), HB.out.trans (HB3.out.mono HB.out.size)⟩
end
section
open Go.RowKit Go.Shelf
theorem rows_has (G : FuncId) (caps : Array Value) (q : Row → Bool) (v : Value) (gs : List Row) (w : World) (hr : Rd rowC 1 w v gs) (hf : ∀ p ∈ gs, ∃ a c, p.1 = .slice a p.2.length c) (he : ∀ args w, (callFunc G args).run Tryz.prog w = .ok (.enter G args) w)
 (hp : ∀ W p, p ∈ gs → Below w.heap.size w W → Calls Tryz.prog G (#[p.1] ++ caps) W fun e w' => e = .returned (.bool (q p)) ∧ Below W.heap.size W w') :
 Calls Tryz.prog 26 #[v, .func (.func G) #[] caps] w fun e w' => e = .returned (.bool (gs.any q)) ∧ Below w.heap.size w w' := by
 have HI := zH (rows_idx G caps q v gs w hr hf he hp)
 have ha := idxFrom_any q gs 0
 have HA := zH ha
 clear ha hr hp he hf
 generalize idxFrom q gs 0 = r at *
 go_enter Tryz.func26, Tryz.ntmps26
 go_wp2_with (go_at_call 104; refine HI.out.mono ?_; rintro e w2 ⟨rfl, hb2⟩)
 go_ret
 exact ⟨ret_bool HA.out, hb2⟩
end
section
theorem makeP_testsOk (srcs : Int) : ∀ (f : Form) (op : Int) (t : Test) (n : Int) (ks : Pats) (k : Int), shape f op t n ks → nodeP srcs op t n ks = true → ks.ok srcs = true → ∀ e ∈ (makeP f k).tests, isTestP e srcs = true
 | .one _, _, _, _, _, _, hs, hn, _, e, he => by
  obtain ⟨rfl, rfl, _, _⟩ := hs
  simp only [makeP, List.mem_singleton] at he
  subst he
  exact nodeP_t hn
 | .thn m a b, _, _, _, _, k, hs, hn, hk, e, he => by
  obtain ⟨_, _, rfl, o1, t1, n1, k1, o2, t2, n2, k2, rfl, ha, hb⟩ := hs
  simp only [Pats.ok, Bool.and_eq_true] at hk
  simp only [makeP, List.mem_append] at he
  rcases he with he | he
  ·exact makeP_testsOk srcs a _ _ _ _ _ ha hk.1.1 hk.1.2 e he
  ·exact makeP_testsOk srcs b _ _ _ _ _ hb hk.2.1.1 hk.2.1.2 e he
 | .or a b, _, _, _, _, k, hs, hn, hk, e, he => by
  obtain ⟨_, _, rfl, o1, t1, n1, k1, o2, t2, n2, k2, rfl, ha, hb⟩ := hs
  simp only [Pats.ok, Bool.and_eq_true] at hk
  simp only [makeP, List.mem_append] at he
  rcases he with he | he
  ·exact makeP_testsOk srcs a _ _ _ _ _ ha hk.1.1 hk.1.2 e he
  ·exact makeP_testsOk srcs b _ _ _ _ _ hb hk.2.1.1 hk.2.1.2 e he
 | .many m a, _, _, _, _, k, hs, hn, hk, e, he => by
  obtain ⟨_, _, rfl, o1, t1, n1, k1, rfl, ha⟩ := hs
  simp only [Pats.ok, Bool.and_eq_true] at hk
  exact makeP_testsOk srcs a _ _ _ _ _ ha hk.1.1 hk.1.2 e he
 | .lack m a c b, _, _, _, _, k, hs, hn, hk, e, he => by
  obtain ⟨_, _, rfl, o1, t1, n1, k1, o2, t2, n2, k2, rfl, ha, hb⟩ := hs
  simp only [Pats.ok, Bool.and_eq_true] at hk
  simp only [makeP, List.mem_append] at he
  rcases he with he | he
  ·exact makeP_testsOk srcs a _ _ _ _ _ ha hk.1.1 hk.1.2 e he
  ·exact makeP_testsOk srcs b _ _ _ _ _ hb hk.2.2.1.1 hk.2.2.1.2 e he
end
section
open Go.ChangeShapes Go.WideShapes Go.RowKit Go.Joins Go.Deep
theorem Tryz.ucells76 : Tryz.prog.cellsOf 76 = 5 := by kernel_rfl
theorem Tryz.ucells74 : Tryz.prog.cellsOf 74 = 3 := by kernel_rfl
end
end Go.Proofs.YtgiploddoffmjaaGreat
