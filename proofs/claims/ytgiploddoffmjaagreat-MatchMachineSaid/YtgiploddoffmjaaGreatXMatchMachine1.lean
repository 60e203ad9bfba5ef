/- My texts, joined: N1, N12, Base1, W0. -/
import Derived.Below
import Derived.BigQuiet
import Derived.Deep.AppendLies
import Derived.Deep.DeepCutAuto
import Derived.Deep.QuietTactic
import Derived.Deep.RegionLaw
import Derived.KernelRfl
import Derived.Laws.AppendOwn
import Derived.Laws.AppendOwnNone
import Derived.Laws.CopyRow
import Derived.Lib.Hide
import Derived.LoopTactic
import Derived.Maps.AppendAt
import Derived.Outline
import Derived.OwnWalk
import Derived.Shelf.Abstract
import Derived.TacticsInMore
import Derived.Test.YtgiploddoffmjaaGreatProg
import Derived.WalkKit
import Derived.WalkSpells
import Derived.Test.YtgiploddoffmjaaGreatM0
import Derived.Test.YtgiploddoffmjaaGreatM1
import Derived.Test.YtgiploddoffmjaaGreatM2
set_option linter.unusedVariables false
set_option linter.unusedSimpArgs false
set_option linter.unusedSectionVars false
set_option maxRecDepth 10000
namespace Go.Proofs.YtgiploddoffmjaaGreat
section
namespace Pats
end Pats
def refPats (srcs : Int) : Pats → Nat → Nat → Nat
 | .nil, _, nodes => nodes
 | .cons op t n ks r, deep, nodes =>
  let m := if nodes ≥ 12 ∨ deep = 0 ∨ nodeP srcs op t n ks = false then 13 else refPats srcs ks (deep - 1) (nodes + 1)
  if m > 12 then 13 else refPats srcs r deep m
def refPat (srcs op : Int) (t : Test) (n : Int) (ks : Pats) (deep nodes : Nat) : Nat := if nodes ≥ 12 ∨ deep = 0 ∨ nodeP srcs op t n ks = false then 13 else refPats srcs ks (deep - 1) (nodes + 1)
theorem refPats_cons (srcs op : Int) (t : Test) (n : Int) (ks r : Pats) (deep nodes : Nat) : refPats srcs (.cons op t n ks r) deep nodes = if refPat srcs op t n ks deep nodes > 12 then 13 else refPats srcs r deep (refPat srcs op t n ks deep nodes) := rfl
theorem refPats_eq (srcs : Int) : ∀ (ps : Pats) (deep nodes : Nat), nodes ≤ 12 → refPats srcs ps deep nodes = if ps.ok srcs = true ∧ ps.dep ≤ deep ∧ nodes + ps.cnt ≤ 12 then nodes + ps.cnt else 13
 | .nil, deep, nodes, h => by simp [refPats, Pats.ok, Pats.dep, Pats.cnt, h]
 | .cons op t n ks r, deep, nodes, h => by
  rw [refPats_cons, refPat]
  simp only [Pats.ok, Pats.dep, Pats.cnt, Bool.and_eq_true]
  generalize nodeP srcs op t n ks = b
  cases b
  ·simp
  ·by_cases h1 : nodes ≥ 12
   ·rw [if_pos (Or.inl h1), if_pos (by omega), if_neg (by omega)]
   ·by_cases h2 : deep = 0
    ·rw [if_pos (Or.inr (Or.inl h2)), if_pos (by omega), if_neg (by omega)]
    ·rw [if_neg (show ¬ (nodes ≥ 12 ∨ deep = 0 ∨ true = false) by simp; omega), refPats_eq srcs ks (deep - 1) (nodes + 1) (by omega)]
     by_cases h3 : ks.ok srcs = true ∧ ks.dep ≤ deep - 1 ∧ nodes + 1 + ks.cnt ≤ 12
     ·rw [if_pos h3, if_neg (by omega), refPats_eq srcs r deep _ h3.2.2]
      by_cases h4 : r.ok srcs = true ∧ r.dep ≤ deep ∧ nodes + 1 + ks.cnt + r.cnt ≤ 12
      ·rw [if_pos h4, if_pos ⟨⟨⟨rfl, h3.1⟩, h4.1⟩, by omega, by omega⟩]; omega
      ·rw [if_neg h4, if_neg (by rintro ⟨⟨_, a⟩, b, c⟩; exact h4 ⟨a, by omega, by omega⟩)]
     ·rw [if_neg h3, if_pos (by omega), if_neg (by rintro ⟨⟨⟨_, a⟩, _⟩, b, c⟩; exact h3 ⟨a, by omega, by omega⟩)]
theorem refPat_eq (srcs op : Int) (t : Test) (n : Int) (ks : Pats) : decide (refPat srcs op t n ks 6 0 ≤ 12) = patP srcs op t n ks := by
 unfold refPat patP
 generalize nodeP srcs op t n ks = b
 cases b
 ·simp
 ·rw [if_neg (by simp), refPats_eq srcs ks 5 1 (by omega)]
  by_cases h : ks.ok srcs = true ∧ ks.dep ≤ 5 ∧ 1 + ks.cnt ≤ 12
  ·rw [if_pos h, h.1, decide_eq_true h.2.2, decide_eq_true h.2.1, decide_eq_true (show ks.cnt ≤ 11 by omega)]; rfl
  ·rw [if_neg h, decide_eq_false (by omega)]
   symm
   by_cases h1 : ks.ok srcs = true
   ·by_cases h2 : ks.dep ≤ 5
    ·rw [h1, decide_eq_true h2, decide_eq_false (show ¬ ks.cnt ≤ 11 from fun h3 => h ⟨h1, h2, by omega⟩)]; rfl
    ·rw [h1, decide_eq_false h2]; rfl
   ·rw [Bool.eq_false_iff.2 h1]; rfl
end
section
def lackOf (e : Edge) : Option Test := if e.lack then some e.t else none
inductive Run (l : List Ev) (τ : Int → Test) (F : List Int) (E : List Edge) : List Int → Int → Prop
 | start {i f : Int} : f ∈ F → 0 ≤ i → i < l.length → holdsP (τ f) (evAt l i) = true → Run l τ F E [i] f
 | step {x : List Int} {p i : Int} {e : Edge} : Run l τ F E x p → e ∈ E → e.from_ = p → 0 ≤ i → i < l.length → holdsP (τ e.to_) (evAt l i) = true → linkP l e.n (lackOf e) (lastI x) i = true → Run l τ F E (x ++ [i]) e.to_
section
variable {l : List Ev} {τ : Int → Test}
theorem run_ne {F : List Int} {E : List Edge} {x : List Int} {q : Int} (h : Run l τ F E x q) : x ≠ [] := by cases h <;> simp
theorem run_mono {F F' : List Int} {E E' : List Edge} (hF : ∀ f ∈ F, f ∈ F') (hE : ∀ e ∈ E, e ∈ E') {x : List Int} {q : Int} (h : Run l τ F E x q) : Run l τ F' E' x q := by
 induction h with
 | start h1 h2 h3 h4 => exact .start (hF _ h1) h2 h3 h4
 | step _ h1 h2 h3 h4 h5 h6 ih => exact .step ih (hE _ h1) h2 h3 h4 h5 h6
theorem run_range {lo hi : Int} {F : List Int} {E : List Edge} (h : within2 lo hi F E) {x : List Int} {q : Int} (hr : Run l τ F E x q) : lo ≤ q ∧ q < hi := by
 cases hr with
 | start h1 _ _ _ => exact h.1 _ h1
 | step _ h1 _ _ _ _ _ => exact (h.2 _ h1).2
theorem lackOf_link (x y n : Int) (lk : Option Test) : lackOf ⟨x, y, n, lk.isSome, lk.getD zeroT⟩ = lk := by cases lk <;> rfl
theorem run_or {lo mid hi : Int} {Fa Fb : List Int} {Ea Eb : List Edge} (ha : within2 lo mid Fa Ea) (hb : within2 mid hi Fb Eb) {x : List Int} {q : Int} (h : Run l τ (Fa ++ Fb) (Ea ++ Eb) x q) : Run l τ Fa Ea x q ∨ Run l τ Fb Eb x q := by
 induction h with
 | start h1 h2 h3 h4 =>
  rcases List.mem_append.1 h1 with h1 | h1
  ·exact .inl (.start h1 h2 h3 h4)
  ·exact .inr (.start h1 h2 h3 h4)
 | step _ h1 h2 h3 h4 h5 h6 ih =>
  rcases ih with ih | ih
  ·have r := run_range ha ih
   rcases List.mem_append.1 h1 with h1 | h1
   ·exact .inl (.step ih h1 h2 h3 h4 h5 h6)
   ·have := hb.2 _ h1; omega
  ·have r := run_range hb ih
   rcases List.mem_append.1 h1 with h1 | h1
   ·have := ha.2 _ h1; omega
   ·exact .inr (.step ih h1 h2 h3 h4 h5 h6)
theorem run_cut {lo mid hi n : Int} {lk : Option Test} {Fa Fb La : List Int} {Ea Eb : List Edge} (ha : within2 lo mid Fa Ea) (hl : ∀ x ∈ La, lo ≤ x ∧ x < mid) (hb : within2 mid hi Fb Eb) {x : List Int} {q : Int} (h : Run l τ Fa (Ea ++ Eb ++ linkE n lk La Fb) x q) :
 Run l τ Fa Ea x q ∨ ∃ u v q1, x = u ++ v ∧ q1 ∈ La ∧ Run l τ Fa Ea u q1 ∧ Run l τ Fb Eb v q ∧ linkP l n lk (lastI u) (headI v) = true := by
 induction h with
 | start h1 h2 h3 h4 => exact .inl (.start h1 h2 h3 h4)
 | step _ h1 h2 h3 h4 h5 h6 ih =>
  rename_i x0 p0 i0 e0 hr0
  rcases ih with ih | ⟨u, v, q1, rfl, h7, h8, h9, h10⟩
  ·have r := run_range ha ih
   rcases List.mem_append.1 h1 with h1 | h1
   ·rcases List.mem_append.1 h1 with h1 | h1
    ·exact .inl (.step ih h1 h2 h3 h4 h5 h6)
    ·have := hb.2 _ h1; omega
   ·obtain ⟨a, hA, b, hB, rfl⟩ := mem_linkE.1 h1
    rw [lackOf_link] at h6
    dsimp only at h2 h5 h6 ⊢
    subst h2
    exact .inr ⟨x0, [i0], a, rfl, hA, ih, .start hB h3 h4 h5, h6⟩
  ·have r := run_range hb h9
   rcases List.mem_append.1 h1 with h1 | h1
   ·rcases List.mem_append.1 h1 with h1 | h1
    ·have := ha.2 _ h1; omega
    ·refine .inr ⟨u, v ++ [i0], q1, List.append_assoc _ _ _, h7, h8, ?_, by rw [headI_append (run_ne h9)]; exact h10⟩
     rw [lastI_append (run_ne h9)] at h6
     exact .step h9 h1 h2 h3 h4 h5 h6
   ·obtain ⟨a, hA, b, hB, rfl⟩ := mem_linkE.1 h1
    have := hl a hA
    dsimp only at h2
    omega
theorem run_join {n : Int} {lk : Option Test} {Fa Fb La : List Int} {Ea E' E : List Edge} (hEa : ∀ e ∈ Ea, e ∈ E) (hE' : ∀ e ∈ E', e ∈ E) (hL : ∀ e ∈ linkE n lk La Fb, e ∈ E) {u v : List Int} {q1 q : Int} (hu : Run l τ Fa Ea u q1) (h1 : q1 ∈ La) (hv : Run l τ Fb E' v q) (hk : linkP l n lk (lastI u) (headI v) = true) : Run l τ Fa E (u ++ v) q := by
 induction hv with
 | start g1 g2 g3 g4 =>
  rename_i i f
  have := Run.step (l := l) (τ := τ) (F := Fa) (E := E) (i := i) (run_mono (fun _ h => h) hEa hu) (hL _ (mem_linkE.2 ⟨q1, h1, f, g1, rfl⟩)) rfl g2 g3 g4 (by rw [lackOf_link]; exact hk)
  exact this
 | step hr g1 g2 g3 g4 g5 g6 ih =>
  rw [headI_append (run_ne hr)] at hk
  rw [← List.append_assoc]
  exact .step (ih hk) (hE' _ g1) g2 g3 g4 g5 (by rw [lastI_append (run_ne hr)]; exact g6)
theorem run_many {n : Int} {a : Form} {Fa La : List Int} {Ea : List Edge} (hL : ∀ (x : List Int) (q : Int), q ∈ La → Run l τ Fa Ea x q → Lang l a x) {x : List Int} {q : Int} (h : Run l τ Fa (Ea ++ linkE n none La Fa) x q) :
 ∃ u v, x = u ++ v ∧ Run l τ Fa Ea v q ∧ (u = [] ∨ (Lang l (.many n a) u ∧ linkP l n none (lastI u) (headI v) = true)) := by
 induction h with
 | start h1 h2 h3 h4 => exact ⟨[], _, rfl, .start h1 h2 h3 h4, .inl rfl⟩
 | step _ h1 h2 h3 h4 h5 h6 ih =>
  rename_i x0 p0 i0 e0 hr0
  obtain ⟨u, v, rfl, h7, h8⟩ := ih
  have hv := run_ne h7
  rw [lastI_append hv] at h6
  rcases List.mem_append.1 h1 with h1 | h1
  ·exact ⟨u, v ++ [i0], List.append_assoc _ _ _, .step h7 h1 h2 h3 h4 h5 h6, by rw [headI_append hv]; exact h8⟩
  ·obtain ⟨q1, hA, b, hB, rfl⟩ := mem_linkE.1 h1
   dsimp only at h2 h5 ⊢
   subst h2
   have h6' : linkP l n none (lastI v) i0 = true := h6
   refine ⟨u ++ v, [i0], rfl, .start hB h3 h4 h5, .inr ⟨?_, by rw [lastI_append hv]; exact h6'⟩⟩
   have la := hL v _ hA h7
   rcases h8 with rfl | ⟨h8, h9⟩
   ·exact .once la
   ·exact lang_append h8 la h9
theorem makeP_lang : ∀ (p : Form) (f : Int), (∀ i : Nat, i < (makeP p f).tests.length → τ (f + i) = ((makeP p f).tests[i]?).getD zeroT) → ∀ x, Lang l p x ↔ ∃ q ∈ (makeP p f).last, Run l τ (makeP p f).first (makeP p f).follow x q
 | .one t, f, ht, x => by
  have h0 : τ f = t := by have := ht 0 (by simp [makeP]); simpa [makeP] using this
  simp only [makeP]
  constructor
  ·intro h
   cases h with
   | one h1 h2 h3 => exact ⟨f, by simp, .start (by simp) h1 h2 (by rw [h0]; exact h3)⟩
  ·rintro ⟨q, hq, h⟩
   cases h with
   | start h1 h2 h3 h4 =>
    have : q = f := by simpa using h1
    subst this
    rw [h0] at h4
    exact .one h2 h3 h4
   | step _ h1 => simp at h1
 | .or a b, f, ht, x => by
  have wa := makeP_within a f
  have wb := makeP_within b (f + (makeP a f).tests.length)
  obtain ⟨_, la, _, _⟩ := makeP_places a f
  obtain ⟨_, lb, _, _⟩ := makeP_places b (f + (makeP a f).tests.length)
  simp only [makeP, List.length_append] at ht ⊢
  have ga := makeP_lang a f (fun i hi => by rw [ht i (by omega), List.getElem?_append_left hi])
  have gb := makeP_lang b (f + (makeP a f).tests.length) (fun i hi => by
   have := ht ((makeP a f).tests.length + i) (by omega)
   rw [List.getElem?_append_right (by omega), Nat.add_sub_cancel_left] at this
   rw [← this]; congr 1; omega)
  constructor
  ·intro h
   cases h with
   | orl h =>
    obtain ⟨q, hq, hr⟩ := (ga x).1 h
    exact ⟨q, List.mem_append.2 (.inl hq), run_mono (fun _ h => List.mem_append.2 (.inl h)) (fun _ h => List.mem_append.2 (.inl h)) hr⟩
   | orr h =>
    obtain ⟨q, hq, hr⟩ := (gb x).1 h
    exact ⟨q, List.mem_append.2 (.inr hq), run_mono (fun _ h => List.mem_append.2 (.inr h)) (fun _ h => List.mem_append.2 (.inr h)) hr⟩
  ·rintro ⟨q, hq, hr⟩
   rcases run_or wa wb hr with hr | hr
   ·have r := run_range wa hr
    rcases List.mem_append.1 hq with hq | hq
    ·exact .orl ((ga x).2 ⟨q, hq, hr⟩)
    ·have := lb q hq; omega
   ·have r := run_range wb hr
    rcases List.mem_append.1 hq with hq | hq
    ·have := la q hq; omega
    ·exact .orr ((gb x).2 ⟨q, hq, hr⟩)
 | .thn n a b, f, ht, x => by
  have wa := makeP_within a f
  have wb := makeP_within b (f + (makeP a f).tests.length)
  obtain ⟨_, la, _, _⟩ := makeP_places a f
  obtain ⟨_, lb, _, _⟩ := makeP_places b (f + (makeP a f).tests.length)
  simp only [makeP, List.length_append] at ht ⊢
  have ga := makeP_lang a f (fun i hi => by rw [ht i (by omega), List.getElem?_append_left hi])
  have gb := makeP_lang b (f + (makeP a f).tests.length) (fun i hi => by
   have := ht ((makeP a f).tests.length + i) (by omega)
   rw [List.getElem?_append_right (by omega), Nat.add_sub_cancel_left] at this
   rw [← this]; congr 1; omega)
  constructor
  ·intro h
   cases h with
   | thn h1 h2 h3 =>
    obtain ⟨q1, hq1, r1⟩ := (ga _).1 h1
    obtain ⟨q, hq, r2⟩ := (gb _).1 h2
    exact ⟨q, hq, run_join (fun _ h => List.mem_append.2 (.inl (List.mem_append.2 (.inl h)))) (fun _ h => List.mem_append.2 (.inl (List.mem_append.2 (.inr h)))) (fun _ h => List.mem_append.2 (.inr h)) r1 hq1 r2 h3⟩
  ·rintro ⟨q, hq, hr⟩
   rcases run_cut wa la wb hr with hr | ⟨u, v, q1, rfl, h1, h2, h3, h4⟩
   ·have := run_range wa hr
    have := lb q hq
    omega
   ·exact .thn ((ga u).2 ⟨q1, h1, h2⟩) ((gb v).2 ⟨q, hq, h3⟩) h4
 | .lack n a t b, f, ht, x => by
  have wa := makeP_within a f
  have wb := makeP_within b (f + (makeP a f).tests.length)
  obtain ⟨_, la, _, _⟩ := makeP_places a f
  obtain ⟨_, lb, _, _⟩ := makeP_places b (f + (makeP a f).tests.length)
  simp only [makeP, List.length_append] at ht ⊢
  have ga := makeP_lang a f (fun i hi => by rw [ht i (by omega), List.getElem?_append_left hi])
  have gb := makeP_lang b (f + (makeP a f).tests.length) (fun i hi => by
   have := ht ((makeP a f).tests.length + i) (by omega)
   rw [List.getElem?_append_right (by omega), Nat.add_sub_cancel_left] at this
   rw [← this]; congr 1; omega)
  constructor
  ·intro h
   cases h with
   | lack h1 h2 h3 =>
    obtain ⟨q1, hq1, r1⟩ := (ga _).1 h1
    obtain ⟨q, hq, r2⟩ := (gb _).1 h2
    exact ⟨q, hq, run_join (fun _ h => List.mem_append.2 (.inl (List.mem_append.2 (.inl h)))) (fun _ h => List.mem_append.2 (.inl (List.mem_append.2 (.inr h)))) (fun _ h => List.mem_append.2 (.inr h)) r1 hq1 r2 h3⟩
  ·rintro ⟨q, hq, hr⟩
   rcases run_cut wa la wb hr with hr | ⟨u, v, q1, rfl, h1, h2, h3, h4⟩
   ·have := run_range wa hr
    have := lb q hq
    omega
   ·exact .lack ((ga u).2 ⟨q1, h1, h2⟩) ((gb v).2 ⟨q, hq, h3⟩) h4
 | .many n a, f, ht, x => by
  simp only [makeP] at ht ⊢
  have ga := makeP_lang a f ht
  constructor
  ·intro h
   generalize hp : Form.many n a = p at h
   induction h with
   | one => cases hp
   | orl => cases hp
   | orr => cases hp
   | thn => cases hp
   | lack => cases hp
   | once h =>
    cases hp
    obtain ⟨q, hq, hr⟩ := (ga _).1 h
    exact ⟨q, hq, run_mono (fun _ h => h) (fun _ h => List.mem_append.2 (.inl h)) hr⟩
   | more h1 h2 h3 _ ih =>
    cases hp
    obtain ⟨q1, hq1, r1⟩ := (ga _).1 h1
    obtain ⟨q, hq, r2⟩ := ih rfl
    exact ⟨q, hq, run_join (fun _ h => List.mem_append.2 (.inl h)) (fun _ h => h) (fun _ h => List.mem_append.2 (.inr h)) r1 hq1 r2 h3⟩
  ·rintro ⟨q, hq, hr⟩
   obtain ⟨u, v, rfl, h1, h2⟩ := run_many (a := a) (fun x q hq hr => (ga x).2 ⟨q, hq, hr⟩) hr
   have la := (ga v).2 ⟨q, hq, h1⟩
   rcases h2 with rfl | ⟨h2, h3⟩
   ·exact .once la
   ·exact lang_append h2 la h3
end
end
section
open Go.RowKit
theorem step_call {P : Program} {ops : Array Oper} {o : Oper} {a : Act} {w : World} {K : Act → World → Prop} {Q : Exit → Act → World → Prop} {E : Prop} (hgd : o.guard = none) (f : FuncId) (fargs : Array Operand) (tys : Array TypeId)
 (ho : o.op = .call { callee := .value (.func f), args := fargs, argTypes := tys }) (he : ∀ args w, (callFunc f args).run P w = .ok (.enter f args) w) (args : Array Value) (hargs' : fargs.toList.map a.eval = args.toList)
 {R : Ending → World → Prop} (hc : Calls P f args w R) (h : ∀ e w', R e w' → ∃ v, e = .returned v ∧ K (a.put o.dst v) w') :
 if Region.wanted o (yielded ops a.tmps) = true then Oper.wp P o a w K Q else E := by
 have hw : Region.wanted o (yielded ops a.tmps) = true := by simp [Region.wanted, hgd]
 rw [if_pos hw]
 have hev : a.eval (.func f) = .func (.func f) #[] #[] := rfl
 have hargs : fargs.map a.eval = args := by
  apply Array.toList_inj.1
  rw [Array.toList_map]; exact hargs'
 unfold Oper.wp execOp
 simp only [ho, resolve, hev, hargs, Sem.run_bind, Sem.run_pure, Result.andThen_ok]
 simp only [invoke, Array.empty_append, Array.append_empty]
 simp [go_sem, he]
 refine hc.mono ?_
 intro e w' hr
 obtain ⟨v, rfl, hk⟩ := h e w' hr
 exact hk
end
section
open Go.RowKit
theorem test_len (t : Test) : t.cells.length = 3 := rfl
theorem refIn_any (n lo hi : Int) (w : World) : Calls Tryz.prog 96 #[.int .i64 n, .int .i64 lo, .int .i64 hi] w fun e w' => e = .returned (.bool (inP n lo hi)) ∧ w = w' := by
 unfold inP
 by_cases h1 : lo ≤ n <;> by_cases h2 : n ≤ hi <;>
 (go_enter Tryz.func96, Tryz.ntmps96
  go_wp2
  go_ret
  exact ⟨by simp [h1, h2], rfl⟩)
theorem refTest_any (t : Test) (srcs : Int) (hs : 1 ≤ srcs ∧ srcs ≤ 4) (w : World) : Calls Tryz.prog 101 #[.agg #[.int .i64 t.src, .int .i64 t.low, .int .i64 t.high], .int .i64 srcs] w fun e w' => e = .returned (.bool (isTestP t srcs)) ∧ Below w.heap.size w w' := by
 obtain ⟨s, lo, hi⟩ := t
 have hw : IntKind.i64.wrap (srcs - 1) = srcs - 1 := Go.IntWalk.i64_in _ (by omega)
 go_enter Tryz.func101, Tryz.ntmps101
 go_wp2_with (go_at_call 96; refine (refIn_any _ _ _ _).mono ?_; rintro e w' ⟨rfl, rfl⟩)
 all_goals
  go_ret
  refine ⟨ret_bool ?_, (Below.refl _ _).alloc (Nat.le_refl _) _⟩
  simp only [isTestP, inP] at *
  grind
theorem refKids_any (op : Int) (w : World) : Calls Tryz.prog 208 #[.int .i64 op] w fun e w' => e = .returned (.int .i64 (kidsP op)) ∧ w = w' := by
 go_enter Tryz.func208, Tryz.ntmps208
 go_wp2
 all_goals
  go_ret
  refine ⟨ret_int ?_, rfl⟩
  simp only [kidsP] at *
  grind
end
end Go.Proofs.YtgiploddoffmjaaGreat
