/- My texts, joined: N1, N2, N5, Base1, W0. -/
import Derived.Below
import Derived.BigQuiet
import Derived.Deep.AppendLies
import Derived.Deep.DeepCutAuto
import Derived.Deep.QuietTactic
import Derived.Deep.RegionLaw
import Derived.KernelRfl
import Derived.Laws.AppendOwn
import Derived.Laws.AppendOwnNone
import Derived.Laws.CopyRow
import Derived.Lib.Hide
import Derived.LoopTactic
import Derived.Maps.AppendAt
import Derived.Outline
import Derived.OwnWalk
import Derived.Shelf.Abstract
import Derived.TacticsInMore
import Derived.Test.YtgiploddoffmjaaGreatProg
import Derived.WalkKit
import Derived.WalkSpells
import Derived.Test.YtgiploddoffmjaaGreatM0
import Derived.Test.YtgiploddoffmjaaGreatM1
import Derived.Test.YtgiploddoffmjaaGreatM2
set_option linter.unusedVariables false
set_option linter.unusedSimpArgs false
set_option linter.unusedSectionVars false
set_option maxRecDepth 10000
namespace Go.Proofs.YtgiploddoffmjaaGreat
section
namespace Pats
end Pats
def refPats (srcs : Int) : Pats → Nat → Nat → Nat
 | .nil, _, nodes => nodes
 | .cons op t n ks r, deep, nodes =>
  let m := if nodes ≥ 12 ∨ deep = 0 ∨ nodeP srcs op t n ks = false then 13 else refPats srcs ks (deep - 1) (nodes + 1)
  if m > 12 then 13 else refPats srcs r deep m
def refPat (srcs op : Int) (t : Test) (n : Int) (ks : Pats) (deep nodes : Nat) : Nat := if nodes ≥ 12 ∨ deep = 0 ∨ nodeP srcs op t n ks = false then 13 else refPats srcs ks (deep - 1) (nodes + 1)
theorem refPats_cons (srcs op : Int) (t : Test) (n : Int) (ks r : Pats) (deep nodes : Nat) : refPats srcs (.cons op t n ks r) deep nodes = if refPat srcs op t n ks deep nodes > 12 then 13 else refPats srcs r deep (refPat srcs op t n ks deep nodes) := rfl
theorem refPats_eq (srcs : Int) : ∀ (ps : Pats) (deep nodes : Nat), nodes ≤ 12 → refPats srcs ps deep nodes = if ps.ok srcs = true ∧ ps.dep ≤ deep ∧ nodes + ps.cnt ≤ 12 then nodes + ps.cnt else 13
 | .nil, deep, nodes, h => by simp [refPats, Pats.ok, Pats.dep, Pats.cnt, h]
 | .cons op t n ks r, deep, nodes, h => by
  rw [refPats_cons, refPat]
  simp only [Pats.ok, Pats.dep, Pats.cnt, Bool.and_eq_true]
  generalize nodeP srcs op t n ks = b
  cases b
  ·simp
  ·by_cases h1 : nodes ≥ 12
   ·rw [if_pos (Or.inl h1), if_pos (by omega), if_neg (by omega)]
   ·by_cases h2 : deep = 0
    ·rw [if_pos (Or.inr (Or.inl h2)), if_pos (by omega), if_neg (by omega)]
    ·rw [if_neg (show ¬ (nodes ≥ 12 ∨ deep = 0 ∨ true = false) by simp; omega), refPats_eq srcs ks (deep - 1) (nodes + 1) (by omega)]
     by_cases h3 : ks.ok srcs = true ∧ ks.dep ≤ deep - 1 ∧ nodes + 1 + ks.cnt ≤ 12
     ·rw [if_pos h3, if_neg (by omega), refPats_eq srcs r deep _ h3.2.2]
      by_cases h4 : r.ok srcs = true ∧ r.dep ≤ deep ∧ nodes + 1 + ks.cnt + r.cnt ≤ 12
      ·rw [if_pos h4, if_pos ⟨⟨⟨rfl, h3.1⟩, h4.1⟩, by omega, by omega⟩]; omega
      ·rw [if_neg h4, if_neg (by rintro ⟨⟨_, a⟩, b, c⟩; exact h4 ⟨a, by omega, by omega⟩)]
     ·rw [if_neg h3, if_pos (by omega), if_neg (by rintro ⟨⟨⟨_, a⟩, _⟩, b, c⟩; exact h3 ⟨a, by omega, by omega⟩)]
theorem refPat_eq (srcs op : Int) (t : Test) (n : Int) (ks : Pats) : decide (refPat srcs op t n ks 6 0 ≤ 12) = patP srcs op t n ks := by
 unfold refPat patP
 generalize nodeP srcs op t n ks = b
 cases b
 ·simp
 ·rw [if_neg (by simp), refPats_eq srcs ks 5 1 (by omega)]
  by_cases h : ks.ok srcs = true ∧ ks.dep ≤ 5 ∧ 1 + ks.cnt ≤ 12
  ·rw [if_pos h, h.1, decide_eq_true h.2.2, decide_eq_true h.2.1, decide_eq_true (show ks.cnt ≤ 11 by omega)]; rfl
  ·rw [if_neg h, decide_eq_false (by omega)]
   symm
   by_cases h1 : ks.ok srcs = true
   ·by_cases h2 : ks.dep ≤ 5
    ·rw [h1, decide_eq_true h2, decide_eq_false (show ¬ ks.cnt ≤ 11 from fun h3 => h ⟨h1, h2, by omega⟩)]; rfl
    ·rw [h1, decide_eq_false h2]; rfl
   ·rw [Bool.eq_false_iff.2 h1]; rfl
end
section
section
variable {α : Type} {o : α → α → Int}
theorem foldl_putO_eq (h : Ord3 o) (l m : List α) (hm : sortedO o m) : l.foldl (putO o) m = setO o (m ++ l) :=
 setO_unique h (foldl_putO h l m hm).1 fun x => by rw [(foldl_putO h l m hm).2, List.mem_append]; exact Or.comm
end
end
section
theorem setO_append {α : Type} {o : α → α → Int} (h : Ord3 o) (a b : List α) : setO o (setO o a ++ b) = setO o (a ++ b) :=
 setO_unique h (setO_sorted h _) fun x => by rw [mem_setO h, List.mem_append, List.mem_append, mem_setO h]
theorem foldl_setO {α : Type} {o : α → α → Int} (h : Ord3 o) (a b : List α) : b.foldl (putO o) (setO o a) = setO o (a ++ b) := by rw [foldl_putO_eq h _ _ (setO_sorted h a), setO_append h]
def autoR : Form → Int → Auto
 | .one t, f => ⟨[t], [f], [f], []⟩
 | .thn n a b, f => let x := autoR a f; let y := autoR b (f + x.tests.length); ⟨x.tests ++ y.tests, x.first, y.last, (linkE n none x.last y.first).foldl (putO edgeOrd) (y.follow.foldl (putO edgeOrd) x.follow)⟩
 | .or a b, f => let x := autoR a f; let y := autoR b (f + x.tests.length); ⟨x.tests ++ y.tests, x.first ++ y.first, x.last ++ y.last, y.follow.foldl (putO edgeOrd) x.follow⟩
 | .many n a, f => let x := autoR a f; ⟨x.tests, x.first, x.last, (linkE n none x.last x.first).foldl (putO edgeOrd) x.follow⟩
 | .lack n a t b, f => let x := autoR a f; let y := autoR b (f + x.tests.length); ⟨x.tests ++ y.tests, x.first, y.last, (linkE n (some t) x.last y.first).foldl (putO edgeOrd) (y.follow.foldl (putO edgeOrd) x.follow)⟩
theorem setO_both (a b : List Edge) : (setO edgeOrd b).foldl (putO edgeOrd) (setO edgeOrd a) = setO edgeOrd (a ++ b) := by
 rw [foldl_setO edgeOrd_laws]
 exact setO_unique edgeOrd_laws (setO_sorted edgeOrd_laws _) fun x => by rw [mem_setO edgeOrd_laws, List.mem_append, List.mem_append, mem_setO edgeOrd_laws]
theorem autoR_makeP : ∀ (p : Form) (f : Int), autoR p f = { makeP p f with follow := setO edgeOrd (makeP p f).follow }
 | .one t, f => rfl
 | .thn n a b, f => by
  simp only [autoR, makeP]
  rw [autoR_makeP a f, autoR_makeP b]
  dsimp only
  rw [setO_both, foldl_setO edgeOrd_laws]
 | .or a b, f => by
  simp only [autoR, makeP]
  rw [autoR_makeP a f, autoR_makeP b]
  dsimp only
  rw [setO_both]
 | .many n a, f => by
  simp only [autoR, makeP]
  rw [autoR_makeP a f]
  dsimp only
  rw [foldl_setO edgeOrd_laws]
 | .lack n a t b, f => by
  simp only [autoR, makeP]
  rw [autoR_makeP a f, autoR_makeP b]
  dsimp only
  rw [setO_both, foldl_setO edgeOrd_laws]
end
section
open Go.RowKit
theorem step_call {P : Program} {ops : Array Oper} {o : Oper} {a : Act} {w : World} {K : Act → World → Prop} {Q : Exit → Act → World → Prop} {E : Prop} (hgd : o.guard = none) (f : FuncId) (fargs : Array Operand) (tys : Array TypeId)
 (ho : o.op = .call { callee := .value (.func f), args := fargs, argTypes := tys }) (he : ∀ args w, (callFunc f args).run P w = .ok (.enter f args) w) (args : Array Value) (hargs' : fargs.toList.map a.eval = args.toList)
 {R : Ending → World → Prop} (hc : Calls P f args w R) (h : ∀ e w', R e w' → ∃ v, e = .returned v ∧ K (a.put o.dst v) w') :
 if Region.wanted o (yielded ops a.tmps) = true then Oper.wp P o a w K Q else E := by
 have hw : Region.wanted o (yielded ops a.tmps) = true := by simp [Region.wanted, hgd]
 rw [if_pos hw]
 have hev : a.eval (.func f) = .func (.func f) #[] #[] := rfl
 have hargs : fargs.map a.eval = args := by
  apply Array.toList_inj.1
  rw [Array.toList_map]; exact hargs'
 unfold Oper.wp execOp
 simp only [ho, resolve, hev, hargs, Sem.run_bind, Sem.run_pure, Result.andThen_ok]
 simp only [invoke, Array.empty_append, Array.append_empty]
 simp [go_sem, he]
 refine hc.mono ?_
 intro e w' hr
 obtain ⟨v, rfl, hk⟩ := h e w' hr
 exact hk
end
section
open Go.RowKit
theorem test_len (t : Test) : t.cells.length = 3 := rfl
theorem refIn_any (n lo hi : Int) (w : World) : Calls Tryz.prog 96 #[.int .i64 n, .int .i64 lo, .int .i64 hi] w fun e w' => e = .returned (.bool (inP n lo hi)) ∧ w = w' := by
 unfold inP
 by_cases h1 : lo ≤ n <;> by_cases h2 : n ≤ hi <;>
 (go_enter Tryz.func96, Tryz.ntmps96
  go_wp2
  go_ret
  exact ⟨by simp [h1, h2], rfl⟩)
theorem refTest_any (t : Test) (srcs : Int) (hs : 1 ≤ srcs ∧ srcs ≤ 4) (w : World) : Calls Tryz.prog 101 #[.agg #[.int .i64 t.src, .int .i64 t.low, .int .i64 t.high], .int .i64 srcs] w fun e w' => e = .returned (.bool (isTestP t srcs)) ∧ Below w.heap.size w w' := by
 obtain ⟨s, lo, hi⟩ := t
 have hw : IntKind.i64.wrap (srcs - 1) = srcs - 1 := Go.IntWalk.i64_in _ (by omega)
 go_enter Tryz.func101, Tryz.ntmps101
 go_wp2_with (go_at_call 96; refine (refIn_any _ _ _ _).mono ?_; rintro e w' ⟨rfl, rfl⟩)
 all_goals
  go_ret
  refine ⟨ret_bool ?_, (Below.refl _ _).alloc (Nat.le_refl _) _⟩
  simp only [isTestP, inP] at *
  grind
theorem refKids_any (op : Int) (w : World) : Calls Tryz.prog 208 #[.int .i64 op] w fun e w' => e = .returned (.int .i64 (kidsP op)) ∧ w = w' := by
 go_enter Tryz.func208, Tryz.ntmps208
 go_wp2
 all_goals
  go_ret
  refine ⟨ret_int ?_, rfl⟩
  simp only [kidsP] at *
  grind
end
end Go.Proofs.YtgiploddoffmjaaGreat
