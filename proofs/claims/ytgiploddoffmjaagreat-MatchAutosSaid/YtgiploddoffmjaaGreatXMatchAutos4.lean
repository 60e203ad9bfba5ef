/- My texts, joined: W6, W7, Base11, N19, N20, W55. -/
import Derived.Below
import Derived.BigQuiet
import Derived.Deep.AppendLies
import Derived.Deep.DeepCutAuto
import Derived.Deep.QuietTactic
import Derived.Deep.RegionHeld
import Derived.Deep.RegionHeld3
import Derived.Deep.RegionLaw
import Derived.Defers
import Derived.Ground.Names2Prog
import Derived.Ground.Names8Prog
import Derived.Ground.SlsfProg
import Derived.Handy
import Derived.KernelRfl
import Derived.Laws.AppendOwn
import Derived.Laws.AppendOwnNone
import Derived.Laws.CopyRow
import Derived.Laws.Pointers
import Derived.Laws.StructEq
import Derived.Lib.Hide
import Derived.Lib.Overlaps
import Derived.LoopIn
import Derived.LoopN
import Derived.LoopNIn
import Derived.LoopTactic
import Derived.MapKept
import Derived.Maps.AppendAt
import Derived.Maps.OwnOps
import Derived.Maps.RangeRun
import Derived.Maps.RangeWalk
import Derived.Outline
import Derived.OwnWalk
import Derived.OwnWalkIn
import Derived.RangeFuncBound
import Derived.RangeFuncCalls
import Derived.RangeFuncLeaves
import Derived.RangeFuncNested
import Derived.Recover
import Derived.Shelf.Abstract
import Derived.Shelf.RegionOpen
import Derived.Shelf.SlGeneric
import Derived.Shelf.SlLaysF0
import Derived.Shelf.SlSortCmp.HeapSort1
import Derived.Shelf.SlSortCmp.Insertion
import Derived.Shelf.SlSortCmp.Insertion1
import Derived.Shelf.SlSortCmp.Median1
import Derived.Shelf.SlSortCmp.NoneTotal
import Derived.Shelf.SlSortCmp.PartialInsertion1
import Derived.Shelf.SlSortCmp.Partition1
import Derived.Shelf.SlSortCmp.PartitionEqual1
import Derived.Shelf.SlSortCmp.Pdq1
import Derived.Shelf.SlSortCmp.Pivot1
import Derived.Shelf.SlSortCmp.ReverseRange1
import Derived.Shelf.SlSortCmp.SiftDown1
import Derived.Shelf.SlSortCmp.Whole1
import Derived.Shelf.SlSortCmp.WholeK
import Derived.Shelf.Slices.In.SortNone
import Derived.Shelf.Small.Bits
import Derived.Shelf.Sort.Plain
import Derived.Shelf.Spec.SlicesGrow
import Derived.TacticsInMore
import Derived.Test.YtgiploddoffmjaaGreatProg
import Derived.WalkKit
import Derived.WalkLawsBesides
import Derived.WalkSpells
import Derived.Test.YtgiploddoffmjaaGreatM0
import Derived.Test.YtgiploddoffmjaaGreatM1
import Derived.Test.YtgiploddoffmjaaGreatM2
import Derived.Test.YtgiploddoffmjaaGreatM3
import Derived.Test.YtgiploddoffmjaaGreatM4
import Derived.Test.YtgiploddoffmjaaGreatM5
import Derived.Test.YtgiploddoffmjaaGreatM6
import Derived.Test.YtgiploddoffmjaaGreatM8
import Derived.Test.YtgiploddoffmjaaGreatM9
import Derived.Test.YtgiploddoffmjaaGreatM10
import Derived.Test.YtgiploddoffmjaaGreatM11
import Derived.Test.YtgiploddoffmjaaGreatM12
import Derived.Test.YtgiploddoffmjaaGreatM13
import Derived.Test.YtgiploddoffmjaaGreatM18
import Derived.Test.YtgiploddoffmjaaGreatM19
import Derived.Test.YtgiploddoffmjaaGreatM20
import Derived.Test.YtgiploddoffmjaaGreatM21
import Derived.Test.YtgiploddoffmjaaGreatM22
import Derived.Test.YtgiploddoffmjaaGreatXMatchAutos1
import Derived.Test.YtgiploddoffmjaaGreatXMatchAutos2
import Derived.Test.YtgiploddoffmjaaGreatXMatchAutos3
set_option linter.unusedVariables false
set_option linter.unusedSimpArgs false
set_option linter.unusedSectionVars false
set_option maxRecDepth 10000
namespace Go.Proofs.YtgiploddoffmjaaGreat
section
open Go.RowKit Go.Shelf
theorem refPat_all (srcs : Int) (hs : 1 ≤ srcs ∧ srcs ≤ 4) : ∀ (q : Nat) (x : Node) (v : Value) (deep nodes : Nat) (w : World), x.ks.cnt < q → deep ≤ 6 → nodes ≤ 12 → RdK w x.ks v →
 Calls Tryz.prog 148 #[.agg (patA x v), .int .i64 srcs, .int .i64 deep, .int .i64 nodes] w fun e w' => e = .returned (.int .i64 (refPat srcs x.op x.t x.n x.ks deep nodes)) ∧ Below w.heap.size w w' := by
 intro q
 induction q with
 | zero => intro x v deep nodes w h; omega
 | succ q ih =>
  intro x v deep nodes w hq hdp hn hr
  obtain ⟨op, ⟨ts, tl, th⟩, pn, ks⟩ := x
  have hv : ∃ a c, v = .slice a ks.len c := by obtain ⟨a, c, h, _⟩ := hr; exact ⟨a, c, h⟩
  show Calls Tryz.prog 148 #[.agg #[.int .i64 op, .int .i64 ts, .int .i64 tl, .int .i64 th, .int .i64 pn, v], .int .i64 srcs, .int .i64 deep, .int .i64 nodes] w fun e w' => e = .returned (.int .i64 (refPat srcs op ⟨ts, tl, th⟩ pn ks deep nodes)) ∧ Below w.heap.size w w'
  have bad : (nodes ≥ 12 ∨ deep = 0 ∨ nodeP srcs op ⟨ts, tl, th⟩ pn ks = false) → ((refPat srcs op ⟨ts, tl, th⟩ pn ks deep nodes : Nat) : Int) = 13 := fun h => by rw [refPat, if_pos h]; rfl
  by_cases h12 : 12 ≤ nodes
  ·rw [bad (.inl h12)]; exact refPat_full srcs op ts tl th pn ks deep nodes w v hv h12
  by_cases h0 : deep = 0
  ·rw [bad (.inr (.inl h0))]; exact refPat_deep srcs op ts tl th pn ks deep nodes w v hv (by omega) h0
  by_cases hl : (ks.len : Int) = kidsP op
  rotate_left
  ·rw [bad (.inr (.inr (by unfold nodeP; rw [decide_eq_false hl]; rfl)))]
   exact refPat_len srcs op ts tl th pn ks deep nodes w v hv (by omega) h0 hl
  cases hin : inP pn 0 200 with
  | false =>
   rw [bad (.inr (.inr (by unfold nodeP; rw [hin, Bool.and_false]; rfl)))]
   exact refPat_n srcs op ts tl th pn ks deep nodes w v hv (by omega) h0 hl hin
  | true =>
   have hop : op = 1 ∨ op = 2 ∨ op = 3 ∨ op = 4 ∨ op = 5 := by
    unfold kidsP at hl
    by_cases h1 : op = 1
    ·omega
    by_cases h4 : op = 4
    ·omega
    by_cases h23 : op = 2 ∨ op = 3
    ·omega
    by_cases h5 : op = 5
    ·omega
    rw [if_neg h1, if_neg h4, if_neg h23, if_neg h5] at hl
    omega
   obtain ⟨dp, rfl⟩ : ∃ dp, deep = dp + 1 := ⟨deep - 1, by omega⟩
   have hIH : ∀ (x : Node) (v : Value) (d n : Nat) (W : World), x.ks.cnt < ks.cnt → d ≤ 6 → n ≤ 12 → RdK W x.ks v → Calls Tryz.prog 148 #[.agg (patA x v), .int .i64 srcs, .int .i64 d, .int .i64 n] W fun e w' => e = .returned (.int .i64 (refPat srcs x.op x.t x.n x.ks d n)) ∧ Below W.heap.size W w' :=
    fun x v d n W h1 h2 h3 h4 => ih x v d n W (by have : ks.cnt < q + 1 := hq; omega) h2 h3 h4
   cases hg : nodeP srcs op ⟨ts, tl, th⟩ pn ks with
   | false =>
    rw [bad (.inr (.inr hg))]
    rcases hop with rfl | rfl | rfl | rfl | rfl
    ·exact refPat_bad1 srcs ts tl th pn ks (dp + 1) nodes w hs v hr (by omega) h0 (by have : kidsP 1 = 0 := rfl; omega) hin hg
    ·exact refPat_bad2 srcs ts tl th pn ks (dp + 1) nodes w hs v hr (by omega) h0 (by have : kidsP 2 = 2 := rfl; omega) hin hg
    ·exact refPat_bad3 srcs ts tl th pn ks (dp + 1) nodes w hs v hr (by omega) h0 (by have : kidsP 3 = 2 := rfl; omega) hin hg
    ·exact refPat_bad4 srcs ts tl th pn ks (dp + 1) nodes w hs v hr (by omega) h0 (by have : kidsP 4 = 1 := rfl; omega) hin hg
    ·exact refPat_bad5 srcs ts tl th pn ks (dp + 1) nodes w hs v hr (by omega) h0 (by have : kidsP 5 = 3 := rfl; omega) hin hg
   | true =>
    have e : refPat srcs op ⟨ts, tl, th⟩ pn ks (dp + 1) nodes = refPats srcs ks dp (nodes + 1) := by
     rw [refPat, if_neg (by rw [hg]; simp; omega)]
     rfl
    rw [e, show ((dp + 1 : Nat) : Int) = (dp : Int) + 1 by omega]
    rcases hop with rfl | rfl | rfl | rfl | rfl
    ·exact refPat_go1 srcs ts tl th pn ks dp nodes w hs v hr (by omega) (by omega) hg hIH
    ·exact refPat_go2 srcs ts tl th pn ks dp nodes w hs v hr (by omega) (by omega) hg hIH
    ·exact refPat_go3 srcs ts tl th pn ks dp nodes w hs v hr (by omega) (by omega) hg hIH
    ·exact refPat_go4 srcs ts tl th pn ks dp nodes w hs v hr (by omega) (by omega) hg hIH
    ·exact refPat_go5 srcs ts tl th pn ks dp nodes w hs v hr (by omega) (by omega) hg hIH
end
section
open Go.RowKit Go.Shelf
set_option maxHeartbeats 4000000 in
theorem refQuery_any (x : Node) (v : Value) (within : Int) (same : Bool) (srcs : Int) (w : World) (hr : RdK w x.ks v) :
 Calls Tryz.prog 85 #[.agg (queryA x v within same), .int .i64 srcs] w fun e w' => e = .returned (.bool (queryP srcs x within)) ∧ Below w.heap.size w w' := by
 have HQ := zH (show queryP srcs x within = (inP srcs 1 4 && patP srcs x.op x.t x.n x.ks && inP within 0 200) from rfl)
 have HR := zH hr
 obtain ⟨a, c, rfl, _, _, _⟩ := hr
 have HP := fun (hs : 1 ≤ srcs ∧ srcs ≤ 4) (W : World) (hb : Below w.heap.size w W) => refPat_all srcs hs (x.ks.cnt + 1) x (.slice a x.ks.len c) 6 0 W (by omega) (by omega) (by omega) (HR.out.below hb)
 have HE := zH (refPat_eq srcs x.op x.t x.n x.ks)
 obtain ⟨op, ⟨ts, tl, th⟩, pn, ks⟩ := x
 dsimp only [queryA, patA] at *
 cases hin : inP srcs 1 4 with
 | false =>
  have HIN := zH hin
  clear HP
  go_enter Tryz.func85, Tryz.ntmps85
  go_wp2_with (go_at_call 96; refine (refIn_any _ _ _ _).mono ?_; rintro e w' ⟨rfl, rfl⟩)
  go_ret
  exact ⟨ret_bool (by rw [HQ.out, HIN.out]; rfl), (Below.refl _ _).alloc (Nat.le_refl _) _⟩
 | true =>
  have hs : 1 ≤ srcs ∧ srcs ≤ 4 := by have := hin; unfold inP at this; simpa using this
  have HIN := zH hin
  have HPC := zH (HP hs)
  clear HP
  go_enter Tryz.func85, Tryz.ntmps85
  go_wp2_with fail
  refine zX (G := fun W => Calls _ _ _ W _) w _ _ fun w2 hb hz hx => ?_
  have c0 : w2.cell? ⟨w.heap.size, 0, none⟩ = some (.int .i64 op) := zC hx 0
  have c1 : w2.cell? ⟨w.heap.size, 1, none⟩ = some (.int .i64 ts) := zC hx 1
  have c2 : w2.cell? ⟨w.heap.size, 2, none⟩ = some (.int .i64 tl) := zC hx 2
  have c3 : w2.cell? ⟨w.heap.size, 3, none⟩ = some (.int .i64 th) := zC hx 3
  have c4 : w2.cell? ⟨w.heap.size, 4, none⟩ = some (.int .i64 pn) := zC hx 4
  have c5 : w2.cell? ⟨w.heap.size, 5, none⟩ = some (.slice a ks.len c) := zC hx 5
  have c6 : w2.cell? ⟨w.heap.size, 6, none⟩ = some (.int .i64 within) := zC hx 6
  clear hx hz
  refine (refIn_any _ _ _ _).mono ?_
  rintro e w1 ⟨rfl, rfl⟩
  rw [HIN.out]
  have hc := HPC.out w2 hb
  obtain ⟨R, hR⟩ : ∃ R, R = refPat srcs op ⟨ts, tl, th⟩ pn ks 6 0 := ⟨_, rfl⟩
  have he := HE.out
  rw [← hR] at hc he
  have HC := zH hc
  have HE2 := zH he
  have HB := zH hb
  clear hb hc he hR
  go_wp2_with fail
  refine HC.out.mono ?_
  rintro e w3 ⟨rfl, hb3⟩
  have d6 := zB hb3 c6
  have HB3 := zH hb3
  clear hb3
  by_cases h12 : R ≤ 12
  ·have h12i : (R : Int) ≤ 12 := by omega
   have hp : patP srcs op ⟨ts, tl, th⟩ pn ks = true := by rw [← HE2.out, decide_eq_true h12]
   have HPT := zH hp
   clear hp
   go_wp2_with (go_at_call 96; refine (refIn_any _ _ _ _).mono ?_; rintro e w' ⟨rfl, rfl⟩)
   go_ret
   exact ⟨ret_bool (by rw [HQ.out, HIN.out, HPT.out]; rfl), HB.out.trans (HB3.out.mono HB.out.size)⟩
  ·have h12i : ¬ (R : Int) ≤ 12 := by omega
   have hp : patP srcs op ⟨ts, tl, th⟩ pn ks = false := by rw [← HE2.out, decide_eq_false h12]
   have HPT := zH hp
   clear hp
   go_wp2
   go_ret
   exact ⟨ret_bool (by rw [HQ.out, HPT.out, Bool.and_false]; rfl), HB.out.trans (HB3.out.mono HB.out.size)⟩
end
section
open Go.RowKit
section
variable {P : Program} {md : Region.Mode} {ops : Array Oper} {Q : Exit → Act → World → Prop} {S : World → Prop}
theorem runW (skip : List Nat) {i : Nat} {oi : Oper} {v : Value} {fuel : Nat} {listed : List Bool} {a : Act} {w w' : World} (hn : nxt skip listed 0 = i) (hi : ops[i]? = some oi) (hr : Region.ready md ops listed.toArray = [i])
 (hw : Region.wanted oi (yielded ops a.tmps) = true) (hrun : (execOp a.eval oi).run P w = .ok (.value v) w') (hS : S w') (h : S w' → wpAnyH P md ops Q S fuel (listed.set i true).toArray (a.put oi.dst v) w') : wpAnyH P md ops Q S (fuel + 1) listed.toArray a w := by
 refine wpAnyH_ready hr (by simp) (AllReadyH.cons hi (fun K hK => ?_) AllReadyH.nil)
 rw [if_pos hw]
 unfold Oper.wp
 rw [hrun]
 exact hK.out _ _ hS (fun hS => by rw [List.setIfInBounds_toArray]; exact h hS)
theorem appendW (skip : List Nat) {i : Nat} {oi : Oper} {fuel : Nat} {listed : List Bool} {a : Act} {w : World} {s x : Operand} {t : TypeId} {v xv : Value} {R : Value → World → Prop} (hn : nxt skip listed 0 = i) (hi : ops[i]? = some oi) (hr : Region.ready md ops listed.toArray = [i])
 (hw : Region.wanted oi (yielded ops a.tmps) = true) (ho : oi.op = .call { callee := .builtin .append, args := #[s, x], argTypes := #[t, t] }) (hs : a.eval s = v) (hx : a.eval x = xv) (hc : ∃ v' w', (Builtin.append_ #[t, t] oi.type #[v, xv]).run P w = .ok v' w' ∧ R v' w')
 (h : ∀ v' w', R v' w' → S w' ∧ (S w' → wpAnyH P md ops Q S fuel (listed.set i true).toArray (a.put oi.dst v') w')) : wpAnyH P md ops Q S (fuel + 1) listed.toArray a w := by
 refine wpAnyH_ready hr (by simp) (AllReadyH.cons hi (fun K hK => ?_) AllReadyH.nil)
 rw [if_pos hw]
 obtain ⟨v', w', hrun, hR⟩ := hc
 obtain ⟨h1, h2⟩ := h v' w' hR
 unfold Oper.wp execOp
 simp only [ho, resolve, invoke, builtin, Sem.run_bind, Sem.run_pure, Result.andThen_ok, List.map_toArray, List.map_cons, List.map_nil, hs, hx, hrun]
 exact hK.out _ _ h1 (fun hS => by rw [List.setIfInBounds_toArray]; exact h2 hS)
theorem runA (skip : List Nat) {i : Nat} {oi : Oper} {v : Value} {fuel : Nat} {listed l' : List Bool} {a a' : Act} {w w' : World}
 (hn : nxt skip listed 0 = i := by simp only [nxt, List.contains_cons, List.contains_nil, Bool.or_false, Bool.or_self, Bool.true_or, cond_true, cond_false, Nat.zero_add, Nat.reduceAdd, Nat.reduceBEq, Bool.false_or]; rfl)
 (hi : ops[i]? = some oi := by rfl) (hr : Region.ready md ops listed.toArray = [i] := by kernel_rfl) (hw : Region.wanted oi (yielded ops a.tmps) = true := by rfl)
 (hrun : (execOp a.eval oi).run P w = .ok (.value v) w' := by first | (go_simp; done) | (go_simp; with_reducible rfl) | (go_simp; constructor <;> with_reducible rfl)) (hp : a.put oi.dst v = a' := by simp only [Act.put, List.getElem_toArray, List.getElem_cons_zero, List.getElem_cons_succ, List.setIfInBounds_toArray, List.set_cons_zero, List.set_cons_succ]; rfl) (hl : listed.set i true = l' := by simp only [List.set_cons_zero, List.set_cons_succ]; rfl)
 (hS : S w') (h : S w' → wpAnyH P md ops Q S fuel l'.toArray a' w') : wpAnyH P md ops Q S (fuel + 1) listed.toArray a w := by
 subst hp; subst hl
 exact runW skip hn hi hr hw hrun hS h
end
end
section
theorem putO_at {α : Type} [DecidableEq α] {o : α → α → Int} (h : Ord3 o) (x : α) : ∀ (l : List α) (k : Nat), (∀ (j : Nat) (u : α), l[j]? = some u → j < k → o u x < 0) → (∀ u, l[k]? = some u → ¬ o u x < 0) → k ≤ l.length →
 putO o l x = if l[k]? = some x then l else l.take k ++ x :: l.drop k
 | [], k, h1, h2, hk => by
  obtain rfl : k = 0 := by simpa using hk
  simp [putO]
 | u :: l, 0, h1, h2, hk => by
  have h3 := h2 u rfl
  rw [putO, if_neg h3]
  by_cases he : o u x = 0
  ·have := (h.eq u x).1 he
   subst this
   simp [he]
  ·have hne : ¬ u = x := fun e => he ((h.eq u x).2 e)
   simp [he, hne]
 | u :: l, k + 1, h1, h2, hk => by
  have h3 := h1 0 u rfl (by omega)
  rw [putO, if_pos h3, putO_at h x l k (fun j v hj hjk => h1 (j + 1) v (by simpa using hj) (by omega)) (fun v hv => h2 v (by simpa using hv)) (by simpa using hk)]
  simp only [List.getElem?_cons_succ]
  split <;> simp
end
section
section
variable {α : Type} [DecidableEq α] {o : α → α → Int}
theorem foldl_mem (h : Ord3 o) : ∀ (l m : List α) (y : α), y ∈ l.foldl (putO o) m → y ∈ l ∨ y ∈ m
 | [], m, y, hy => .inr hy
 | x :: l, m, y, hy => by
  rw [List.foldl_cons] at hy
  rcases foldl_mem h l _ y hy with h1 | h1
  ·exact .inl (List.mem_cons_of_mem _ h1)
  ·rcases (mem_putO h x y m).1 h1 with rfl | h2
   ·exact .inl List.mem_cons_self
   ·exact .inr h2
theorem foldl_take {β : Type} (f : β → α → β) (b : β) {l : List α} {m : Nat} {x : α} (h : l[m]? = some x) : (l.take (m + 1)).foldl f b = f ((l.take m).foldl f b) x := by
 rw [List.take_add_one, h, List.foldl_append]; rfl
end
end
section
open Go.RowKit Go.Shelf
def smallTest (t : Test) : Prop := small1 t.src ∧ small1 t.low ∧ small1 t.high
set_option maxHeartbeats 4000000 in
theorem refTestOrd_any (a b : Test) (w : World) (ha : smallTest a) (hb : smallTest b) : Calls Tryz.prog 175 #[.agg #[.int .i64 a.src, .int .i64 a.low, .int .i64 a.high], .agg #[.int .i64 b.src, .int .i64 b.low, .int .i64 b.high]] w fun e w' => e = .returned (.int .i64 (testOrd a b)) ∧ Below w.heap.size w w' := by
 obtain ⟨ax, al, ah⟩ := a
 obtain ⟨bx, bl, bh⟩ := b
 dsimp only [smallTest, small1] at ha hb
 obtain ⟨o, ho⟩ : ∃ o, o = testOrd ⟨ax, al, ah⟩ ⟨bx, bl, bh⟩ := ⟨_, rfl⟩
 rw [← ho]
 have h1 : IntKind.i64.wrap (ax - bx) = ax - bx := Go.IntWalk.i64_in _ (by omega)
 have h2 : IntKind.i64.wrap (al - bl) = al - bl := Go.IntWalk.i64_in _ (by omega)
 have h3 : IntKind.i64.wrap (ah - bh) = ah - bh := Go.IntWalk.i64_in _ (by omega)
 simp only [testOrd] at ho
 have HB := zH (fun o1 o2 => (((Below.refl w.heap.size w).alloc (Nat.le_refl _) o1).alloc (by simp) o2))
 clear ha hb
 by_cases e1 : ax = bx
 ·by_cases e2 : al = bl
  ·have HO := zH (show o = ah - bh by rw [ho, if_neg (by simp [e1]), if_neg (by simp [e2])])
   have n1 : (ax != bx) = false := by simp [e1]
   have n2 : (al != bl) = false := by simp [e2]
   clear ho e1 e2
   go_enter Tryz.func175, Tryz.ntmps175
   go_wp2_with fail
   go_ret
   exact ⟨ret_int HO.out.symm, HB.out _ _⟩
  ·have HO := zH (show o = al - bl by rw [ho, if_neg (by simp [e1]), if_pos e2])
   have n1 : (ax != bx) = false := by simp [e1]
   have n2 : (al != bl) = true := by simp [e2]
   clear ho e1 e2
   go_enter Tryz.func175, Tryz.ntmps175
   go_wp2_with fail
   go_ret
   exact ⟨ret_int HO.out.symm, HB.out _ _⟩
 ·have HO := zH (show o = ax - bx by rw [ho, if_pos e1])
  have n1 : (ax != bx) = true := by simp [e1]
  clear ho e1
  go_enter Tryz.func175, Tryz.ntmps175
  go_wp2_with fail
  go_ret
  exact ⟨ret_int HO.out.symm, HB.out _ _⟩
set_option maxHeartbeats 4000000 in
theorem refEdgeOrd_any (a b : Edge) (w : World) (ha : edgeSm a) (hb : edgeSm b) : Calls Tryz.prog 102 #[.agg (edgeA a), .agg (edgeA b)] w fun e w' => e = .returned (.int .i64 (edgeOrd a b)) ∧ Below w.heap.size w w' := by
 obtain ⟨af, at_, an, al, ⟨ax, alo, ahi⟩⟩ := a
 obtain ⟨bf, bt, bn, bl, ⟨bx, blo, bhi⟩⟩ := b
 have HT := zH (fun W => refTestOrd_any ⟨ax, alo, ahi⟩ ⟨bx, blo, bhi⟩ W (by dsimp only [edgeSm] at ha; exact ⟨ha.2.2.2.1, ha.2.2.2.2.1, ha.2.2.2.2.2⟩) (by dsimp only [edgeSm] at hb; exact ⟨hb.2.2.2.1, hb.2.2.2.2.1, hb.2.2.2.2.2⟩))
 dsimp only [edgeSm, small1] at ha hb
 obtain ⟨o, ho⟩ : ∃ o, o = edgeOrd ⟨af, at_, an, al, ⟨ax, alo, ahi⟩⟩ ⟨bf, bt, bn, bl, ⟨bx, blo, bhi⟩⟩ := ⟨_, rfl⟩
 rw [← ho]
 have h1 : IntKind.i64.wrap (af - bf) = af - bf := Go.IntWalk.i64_in _ (by omega)
 have h2 : IntKind.i64.wrap (at_ - bt) = at_ - bt := Go.IntWalk.i64_in _ (by omega)
 have h3 : IntKind.i64.wrap (an - bn) = an - bn := Go.IntWalk.i64_in _ (by omega)
 simp only [edgeOrd] at ho
 have HB := zH (fun o1 o2 => (((Below.refl w.heap.size w).alloc (Nat.le_refl _) o1).alloc (by simp) o2))
 simp only [edgeA]
 clear ha hb
 by_cases e1 : af = bf
 rotate_left
 ·have HO := zH (show o = af - bf by rw [ho, if_pos e1])
  have n1 : (af != bf) = true := by simp [e1]
  clear ho e1
  go_enter Tryz.func102, Tryz.ntmps102
  go_wp2_with fail
  go_ret
  exact ⟨ret_int HO.out.symm, HB.out _ _⟩
 by_cases e2 : at_ = bt
 rotate_left
 ·have HO := zH (show o = at_ - bt by rw [ho, if_neg (by simp [e1]), if_pos e2])
  have n1 : (af != bf) = false := by simp [e1]
  have n2 : (at_ != bt) = true := by simp [e2]
  clear ho e1 e2
  go_enter Tryz.func102, Tryz.ntmps102
  go_wp2_with fail
  go_ret
  exact ⟨ret_int HO.out.symm, HB.out _ _⟩
 by_cases e3 : an = bn
 rotate_left
 ·have HO := zH (show o = an - bn by rw [ho, if_neg (by simp [e1]), if_neg (by simp [e2]), if_pos e3])
  have n1 : (af != bf) = false := by simp [e1]
  have n2 : (at_ != bt) = false := by simp [e2]
  have n3 : (an != bn) = true := by simp [e3]
  clear ho e1 e2 e3
  go_enter Tryz.func102, Tryz.ntmps102
  go_wp2_with fail
  go_ret
  exact ⟨ret_int HO.out.symm, HB.out _ _⟩
 rw [if_neg (by simp [e1]), if_neg (by simp [e2]), if_neg (by simp [e3])] at ho
 have n1 : (af != bf) = false := by simp [e1]
 have n2 : (at_ != bt) = false := by simp [e2]
 have n3 : (an != bn) = false := by simp [e3]
 clear e1 e2 e3
 cases al <;> cases bl
 ·have HO := zH (show o = testOrd ⟨ax, alo, ahi⟩ ⟨bx, blo, bhi⟩ from ho)
  clear ho
  go_enter Tryz.func102, Tryz.ntmps102
  go_wp2_with (go_at_call 175; refine (HT.out _).mono ?_; rintro e w9 ⟨rfl, hb9⟩)
  go_ret
  exact ⟨ret_int HO.out.symm, (HB.out _ _).trans (hb9.mono (HB.out _ _).size)⟩
 ·have HO := zH (show o = -1 from ho)
  clear ho
  go_enter Tryz.func102, Tryz.ntmps102
  go_wp2_with fail
  go_ret
  exact ⟨ret_int HO.out.symm, HB.out _ _⟩
 ·have HO := zH (show o = 1 from ho)
  clear ho
  go_enter Tryz.func102, Tryz.ntmps102
  go_wp2_with fail
  go_ret
  exact ⟨ret_int HO.out.symm, HB.out _ _⟩
 ·have HO := zH (show o = testOrd ⟨ax, alo, ahi⟩ ⟨bx, blo, bhi⟩ from ho)
  clear ho
  go_enter Tryz.func102, Tryz.ntmps102
  go_wp2_with (go_at_call 175; refine (HT.out _).mono ?_; rintro e w9 ⟨rfl, hb9⟩)
  go_ret
  exact ⟨ret_int HO.out.symm, (HB.out _ _).trans (hb9.mono (HB.out _ _).size)⟩
end
end Go.Proofs.YtgiploddoffmjaaGreat
