/- My texts of layer 14, joined: Base0, P0, R0, P1, P2, Base1, R2, R3, Base2, R4. -/
import Derived.WalkKit
import Derived.KernelRfl
import Derived.WalkSpells
import Derived.Deep.QuietTactic
import Derived.BigQuiet
import Derived.Outline
import Derived.Below
import Derived.LoopTactic
import Derived.OwnWalk
import Derived.Laws.AppendOwn
import Derived.Laws.AppendOwnNone
import Derived.Maps.AppendAt
import Derived.TacticsInMore
import Derived.Lib.Hide
import Derived.Test.YtkoeplbkeboklaaGreatProg
import Derived.Laws.CopyRow
import Derived.Deep.AppendLies
import Derived.Deep.RegionHeld3
import Derived.Deep.RegionLaw
import Derived.Shelf.Abstract
import Derived.MapKept
import Derived.Maps.RangeRun
import Derived.Maps.OwnOps
import Derived.Maps.RangeWalk
/- Small laws for the walks of this seat: worlds that grow, rows that are read and made, maps of whole numbers; no program in sight. -/
set_option linter.unusedVariables false
set_option linter.unusedSimpArgs false
namespace Go.Proofs.YtkoeplbkeboklaaGreat
open Go.RowKit

/-! ### endings -/
theorem ret_bool {a b : Bool} (h : a = b) : Ending.returned (.bool a) = Ending.returned (.bool b) := by rw [h]
theorem ret_int {k : IntKind} {a b : Int} (h : a = b) : Ending.returned (.int k a) = Ending.returned (.int k b) := by rw [h]

/-! ### worlds -/
theorem below_drewN {B : Nat} {w W : World} (h : Below B w W) (n : Nat) : Below B w (W.drewN n) := ⟨h.os, h.tape, h.output, h.size, h.block⟩
theorem below_cell {w w1 : World} (h : Below w.heap.size w w1) {a : Addr} {v : Value} (hc : w.cell? a = some v) : w1.cell? a = some v :=
  (h.cell (World.block_lt_of_cell? w a hc)).trans hc
theorem below_frozen {w w1 : World} (h : Below w.heap.size w w1) {a : Addr} (hl : a.block < w.heap.size) {b : Bool} (hc : w.frozen? a = b) : w1.frozen? a = b := (h.frozen hl).trans hc
/-- A world that has grown out of another one: a class of worlds for regions that draw. -/
structure Ext (w : World) where
  W : World
  h : Below w.heap.size w W
instance (w : World) : Inhabited (Ext w) := ⟨⟨w, Below.refl _ _⟩⟩
theorem wp_region_ext {P : Program} {id : Nat} {Q : Exit → Act → World → Prop} {a : Act} {w : World} {l : List Oper} (hm : P.follows .mixedOrders = true) (hB : Region.lexB .any l.toArray = true)
    (h : wpQuiet P l.toArray (fun w' => ∃ p : Ext w, w' = p.W) (fun a' => ∀ w', (∃ p : Ext w, w' = p.W) → Q .normal a' w') l a) : (Code.region id l.toArray true).wp P Q a w :=
  wp_region_quiet (C := fun w' => ∃ p : Ext w, w' = p.W) hm hB ⟨⟨w.drew, (Below.refl _ _).drew⟩, rfl⟩ (by simpa using h)
theorem Ext.cell {w : World} (p : Ext w) {a : Addr} {v : Value} (h : w.cell? a = some v) : p.W.cell? a = some v := below_cell p.h h
theorem Ext.of {P : Program} {f : FuncId} {args : Array Value} {w : World} {p : Ext w} {v : Value}
    (h : Calls P f args p.W fun e w' => e = .returned v ∧ Below p.W.heap.size p.W w') : Calls P f args p.W fun e w'' => e = .returned v ∧ ∃ q : Ext w, w'' = q.W :=
  h.mono fun _ w' ⟨he, hb⟩ => ⟨he, ⟨w', p.h.trans (hb.mono p.h.size)⟩, rfl⟩
theorem Ext.of_same {P : Program} {f : FuncId} {args : Array Value} {w : World} {p : Ext w} {v : Value}
    (h : Calls P f args p.W fun e w' => e = .returned v ∧ p.W = w') : Calls P f args p.W fun e w'' => e = .returned v ∧ ∃ q : Ext w, w'' = q.W :=
  h.mono fun _ w' ⟨he, hb⟩ => ⟨he, p, hb.symm⟩

theorem box_at (w : World) (cs : Array Value) (T : TypeId) (j : Nat) : (w.alloc (.cells cs T)).cell? ⟨w.heap.size, j, none⟩ = cs[j]? := World.cell?_alloc_new w cs T j
/-- A new world under a name of its own, with what was known of the elder one. -/
theorem named_box (w : World) (cs : Array Value) (T : TypeId) {G : World → Prop}
    (h : ∀ W0, Below w.heap.size w W0 → W0.heap.size = w.heap.size + 1 → (∀ j, W0.cell? ⟨w.heap.size, j, none⟩ = cs[j]?) → G W0) : G (w.alloc (.cells cs T)) :=
  h _ ((Below.refl _ _).alloc (Nat.le_refl _) _) (by simp) (fun j => box_at w cs T j)

theorem named_box2 (w : World) (cs ds : Array Value) (T U : TypeId) {G : World → Prop}
    (h : ∀ W0, Below w.heap.size w W0 → W0.heap.size = w.heap.size + 2 → W0.heap[w.heap.size]? = some (.cells cs T (0, 0)) → W0.heap[w.heap.size + 1]? = some (.cells ds U (0, 0)) → G W0) : G ((w.alloc (.cells cs T)).alloc (.cells ds U)) :=
  h _ (((Below.refl _ _).alloc (Nat.le_refl _) _).alloc (by simp) _) (by simp) ((Below.heap_alloc _ _ _ (by simp)).trans (heap_alloc_new w _)) (by
    have := heap_alloc_new (w.alloc (.cells cs T)) (.cells ds U)
    rwa [World.size_alloc] at this)
theorem named_box3 (w : World) (cs ds es : Array Value) (T U V : TypeId) {G : World → Prop}
    (h : ∀ W0, Below w.heap.size w W0 → W0.heap.size = w.heap.size + 3 → W0.heap[w.heap.size]? = some (.cells cs T (0, 0)) → W0.heap[w.heap.size + 1]? = some (.cells ds U (0, 0)) → W0.heap[w.heap.size + 1 + 1]? = some (.cells es V (0, 0)) → G W0) :
    G (((w.alloc (.cells cs T)).alloc (.cells ds U)).alloc (.cells es V)) := by
  have e1 := heap_alloc_new (w.alloc (.cells cs T)) (.cells ds U)
  have e2 := heap_alloc_new ((w.alloc (.cells cs T)).alloc (.cells ds U)) (.cells es V)
  simp only [World.size_alloc] at e1 e2
  exact h _ ((((Below.refl _ _).alloc (Nat.le_refl _) _).alloc (by simp) _).alloc (by simp; omega) _) (by simp) ((Below.heap_alloc _ _ _ (by simp; omega)).trans ((Below.heap_alloc _ _ _ (by simp)).trans (heap_alloc_new w _))) ((Below.heap_alloc _ _ _ (by simp)).trans e1) e2
theorem cell_blk {w : World} {b : Nat} {cs : Array Value} {T : TypeId} (h : w.heap[b]? = some (.cells cs T (0, 0))) (j : Nat) : w.cell? ⟨b, j, none⟩ = cs[j]? := cell_of_row w b j cs T (0, 0) h
theorem free_blk {w : World} {b : Nat} {cs : Array Value} {T : TypeId} (h : w.heap[b]? = some (.cells cs T (0, 0))) (j : Nat) : w.frozen? ⟨b, j, none⟩ = false := by simp [World.frozen?, h]
/-! ### rows that are read -/
/-- A row of elements (k cells each) that reads as xs. -/
def RdAt {α : Type} (enc : α → List Value) (k : Nat) (w : World) (b off : Nat) (xs : List α) : Prop :=
  ∀ i x, xs[i]? = some x → ∀ j u, (enc x)[j]? = some u → w.cell? ⟨b, off + i * k + j, none⟩ = some u
def Rd {α : Type} (enc : α → List Value) (k : Nat) (w : World) (v : Value) (xs : List α) : Prop :=
  xs.length ≤ 9223372036854775807 ∧ ∃ a c, v = .slice a xs.length c ∧ (0 < xs.length → ∃ b off, a = some ⟨b, off, none⟩ ∧ b < w.heap.size ∧ RdAt enc k w b off xs)
theorem RdAt.below {α : Type} {enc : α → List Value} {k : Nat} {w w1 : World} {b off : Nat} {xs : List α} (h : RdAt enc k w b off xs) {B : Nat} (hb : Below B w w1) (hlt : b < B) : RdAt enc k w1 b off xs :=
  fun i x hx j u hu => (hb.cell (p := ⟨b, _, none⟩) hlt).trans (h i x hx j u hu)
theorem Rd.below {α : Type} {enc : α → List Value} {k : Nat} {w w1 : World} {v : Value} {xs : List α} (h : Rd enc k w v xs) (hb : Below w.heap.size w w1) : Rd enc k w1 v xs := by
  obtain ⟨h0, a, c, rfl, h⟩ := h
  refine ⟨h0, a, c, rfl, fun hl => ?_⟩
  obtain ⟨b, off, rfl, hlt, hr⟩ := h hl
  exact ⟨b, off, rfl, Nat.lt_of_lt_of_le hlt hb.size, hr.below hb hlt⟩
theorem Rd.nil {α : Type} (enc : α → List Value) (k : Nat) (w : World) : Rd enc k w (.slice none 0 0) ([] : List α) := ⟨by simp, none, 0, rfl, fun h => absurd h (by simp)⟩
end Go.Proofs.YtkoeplbkeboklaaGreat
/- The plain side of retro: steps, lines, what is formed. No program in sight. -/
set_option linter.unusedVariables false
set_option linter.unusedSimpArgs false
namespace Go.Proofs.YtkoeplbkeboklaaGreat
structure Step where
  at_ : Int
  do_ : Int
  key : Int
  val : Int
deriving DecidableEq
def withinP (n lo hi : Int) : Bool := decide (lo ≤ n) && decide (n ≤ hi)
def isStepP (k : Int) (s : Step) : Bool :=
  if withinP s.at_ 0 1000 && withinP s.key (-1000000000) 1000000000 && withinP s.val (-1000000000) 1000000000 then
    if s.key ≠ 0 ∧ k ≠ 3 then false else s.do_ == 1 || (s.do_ == 2 && s.val == 0)
  else false
def incP : List Step → Bool
  | a :: b :: l => decide (a.at_ < b.at_) && incP (b :: l)
  | _ => true
def isLineP (k : Int) (l : List Step) : Bool := decide (1 ≤ k) && decide (k ≤ 3) && decide (l.length ≤ 60) && l.all (isStepP k) && incP l
def okTo (k : Int) (l : List Step) (n : Nat) : Prop :=
  (∀ i x, i < n → l[i]? = some x → isStepP k x = true) ∧ (∀ i x y, i + 1 < n → l[i]? = some x → l[i + 1]? = some y → x.at_ < y.at_)
theorem incP_iff : ∀ (l : List Step), incP l = true ↔ ∀ i x y, l[i]? = some x → l[i + 1]? = some y → x.at_ < y.at_
  | [] => by simp [incP]
  | [a] => by
    refine ⟨fun _ i x y h1 h2 => ?_, fun _ => rfl⟩
    simp at h2
  | a :: b :: l => by
    have ih := incP_iff (b :: l)
    simp only [incP, Bool.and_eq_true, decide_eq_true_eq, ih]
    refine ⟨fun ⟨h0, h⟩ i x y h1 h2 => ?_, fun h => ⟨h 0 a b rfl rfl, fun i x y h1 h2 => h (i + 1) x y h1 h2⟩⟩
    cases i with
    | zero =>
      simp only [List.getElem?_cons_zero, Option.some.injEq] at h1
      simp only [Nat.zero_add, List.getElem?_cons_succ, List.getElem?_cons_zero, Option.some.injEq] at h2
      subst h1; subst h2; exact h0
    | succ i => exact h i x y h1 h2
theorem okTo_zero (k : Int) (l : List Step) : okTo k l 0 := ⟨fun i x h => by omega, fun i x y h => by omega⟩
theorem okTo_one {k : Int} {l : List Step} {s : Step} (hx : l[0]? = some s) (hs : isStepP k s = true) : okTo k l 1 := by
  refine ⟨fun i x hi h => ?_, fun i x y h => by omega⟩
  obtain rfl : i = 0 := by omega
  rw [hx] at h; cases h; exact hs
theorem okTo_succ {k : Int} {l : List Step} {n : Nat} {p s : Step} (h : okTo k l (n + 1)) (hp : l[n]? = some p) (hx : l[n + 1]? = some s) (hs : isStepP k s = true) (hl : p.at_ < s.at_) : okTo k l (n + 2) := by
  refine ⟨fun i x hi hx' => ?_, fun i x y hi h1 h2 => ?_⟩
  · by_cases e : i = n + 1
    · subst e; rw [hx] at hx'; cases hx'; exact hs
    · exact h.1 i x (by omega) hx'
  · by_cases e : i = n
    · subst e; rw [hp] at h1; cases h1; rw [hx] at h2; cases h2; exact hl
    · exact h.2 i x y (by omega) h1 h2
theorem isLineP_ok {k : Int} {l : List Step} (h1 : 1 ≤ k) (h3 : k ≤ 3) (hl : l.length ≤ 60) (h : okTo k l l.length) : isLineP k l = true := by
  have a : l.all (isStepP k) = true := by
    rw [List.all_eq_true]
    intro x hx
    obtain ⟨i, hi, rfl⟩ := List.getElem_of_mem hx
    exact h.1 i _ hi (List.getElem?_eq_getElem hi)
  have b : incP l = true := (incP_iff l).2 fun i x y e1 e2 => h.2 i x y (List.getElem?_eq_some_iff.1 e2).1 e1 e2
  simp [isLineP, h1, h3, hl, b]
  simpa using a
theorem isLineP_bad1 {k : Int} {l : List Step} {n : Nat} {s : Step} (hx : l[n]? = some s) (hs : isStepP k s = false) : isLineP k l = false := by
  have a : l.all (isStepP k) = false := by
    rw [List.all_eq_false]
    exact ⟨s, List.mem_of_getElem? hx, by simp [hs]⟩
  simp only [isLineP, a, Bool.and_false, Bool.false_and]
theorem isLineP_bad2 {k : Int} {l : List Step} {n : Nat} {p s : Step} (hp : l[n]? = some p) (hx : l[n + 1]? = some s) (hs : ¬ p.at_ < s.at_) : isLineP k l = false := by
  have b : incP l = false := by
    cases h : incP l with
    | false => rfl
    | true => exact absurd ((incP_iff l).1 h n p s hp hx) hs
  simp only [isLineP, b, Bool.and_false]
theorem isLineP_kind {k : Int} {l : List Step} (h : k < 1 ∨ 3 < k) : isLineP k l = false := by
  rcases h with h | h <;> simp only [isLineP]
  · rw [decide_eq_false (by omega)]; simp
  · rw [decide_eq_false (p := k ≤ 3) (by omega)]; simp
theorem isLineP_long {k : Int} {l : List Step} (h : 60 < l.length) : isLineP k l = false := by
  simp only [isLineP]
  rw [decide_eq_false (p := l.length ≤ 60) (by omega)]; simp
theorem isLineP_spec {k : Int} {l : List Step} (h : isLineP k l = true) : 1 ≤ k ∧ k ≤ 3 ∧ l.length ≤ 60 ∧ (∀ x ∈ l, isStepP k x = true) ∧ incP l = true := by
  simp only [isLineP, Bool.and_eq_true, decide_eq_true_eq, List.all_eq_true] at h
  exact ⟨h.1.1.1.1, h.1.1.1.2, h.1.1.2, h.1.2, h.2⟩
end Go.Proofs.YtkoeplbkeboklaaGreat
/- retro: the walks of within, isStep, isLine: a line is formed just if it is formed by the plain test. -/
set_option linter.unusedVariables false
set_option linter.unusedSimpArgs false
namespace Go.Proofs.YtkoeplbkeboklaaGreat
open Go.RowKit
def Step.cells (s : Step) : List Value := [.int .i64 s.at_, .int .i64 s.do_, .int .i64 s.key, .int .i64 s.val]

theorem within_any (n lo hi : Int) (w : World) : Calls Tryz.prog 54 #[.int .i64 n, .int .i64 lo, .int .i64 hi] w fun e w' => e = .returned (.bool (withinP n lo hi)) ∧ w = w' := by
  unfold withinP
  by_cases h1 : lo ≤ n <;> by_cases h2 : n ≤ hi <;>
  (go_enter Tryz.func54, Tryz.ntmps54
   go_wp2
   go_ret
   exact ⟨by simp [h1, h2], rfl⟩)
set_option maxHeartbeats 4000000 in
theorem isStep_any (k : Int) (s : Step) (w : World) : Calls Tryz.prog 33 #[.int .i64 k, .agg #[.int .i64 s.at_, .int .i64 s.do_, .int .i64 s.key, .int .i64 s.val]] w fun e w' => e = .returned (.bool (isStepP k s)) ∧ Below w.heap.size w w' := by
  obtain ⟨a, d, ky, v⟩ := s
  go_enter Tryz.func33, Tryz.ntmps33
  go_wp2_with (go_at_call 54; refine (within_any _ _ _ _).mono ?_; rintro e w' ⟨rfl, rfl⟩)
  all_goals
    go_ret
    exact ⟨by simp_all [isStepP], (Below.refl _ _).alloc (Nat.le_refl _) _⟩
theorem isStep_is {k : Int} {s : Step} {r : Bool} (h : isStepP k s = r) (w : World) : Calls Tryz.prog 33 #[.int .i64 k, .agg #[.int .i64 s.at_, .int .i64 s.do_, .int .i64 s.key, .int .i64 s.val]] w fun e w' => e = .returned (.bool r) ∧ Below w.heap.size w w' :=
  (isStep_any k s w).mono fun e w' h' => ⟨by rw [h'.1, h], h'.2⟩

set_option maxHeartbeats 4000000 in
theorem isLine_in (k : Int) (v : Value) (l : List Step) (w : World) (hk1 : 1 ≤ k) (hk3 : k ≤ 3) (hl : l.length ≤ 60) (hr : Rd Step.cells 4 w v l) :
    Calls Tryz.prog 14 #[.agg #[.int .i64 k, v]] w fun e w' => e = .returned (.bool (isLineP k l)) ∧ Below w.heap.size w w' := by
  obtain ⟨hn, a, c, rfl, hr⟩ := hr
  go_enter Tryz.func14, Tryz.ntmps14
  go_wp2
  go_loopw [22] (fun i W => ∃ n : Nat, i = .int .i64 n ∧ n ≤ l.length ∧ okTo k l n ∧ Below w.heap.size w W ∧ w.heap.size < W.heap.size ∧ W.cell? ⟨w.heap.size, 0, none⟩ = some (.int .i64 k) ∧ W.cell? ⟨w.heap.size, 1, none⟩ = some (.slice a l.length c)) (fun i _ => l.length - (intOf i).toNat)
  case atStart => exact ⟨0, rfl, by omega, okTo_zero _ _, (Below.refl _ _).alloc (Nat.le_refl _) _, by simp, by simp, by simp⟩
  case round =>
    obtain ⟨n, rfl, hnl, hok, hB, hlt, hc0, hc1⟩ := hrel
    have hr0 := hr; clear hr
    by_cases hlt' : n < l.length
    · obtain ⟨b, off, rfl, hbl, hrd⟩ := hr0 (by omega)
      have hx := List.getElem?_eq_getElem hlt'
      generalize l[n] = s at hx
      have hcell : ∀ j u, s.cells[j]? = some u → wr.cell? ⟨b, off + n * 4 + j, none⟩ = some u := fun j u hu => (hB.cell (p := ⟨b, _, none⟩) hbl).trans (hrd n s hx j u hu)
      have q0 : wr.cell? ⟨b, off + n * 4, none⟩ = some (.int .i64 s.at_) := hcell 0 _ rfl
      have q1 := hcell 1 _ rfl
      have q2 := hcell 2 _ rfl
      have q3 := hcell 3 _ rfl
      clear hcell hr0
      have HX := Lib.hid hx; clear hx
      by_cases hs : isStepP k s = true
      · have HC := Lib.hid (isStep_is hs)
        have HS := Lib.hid hs; clear hs
        by_cases h0 : n ≤ 0
        · have hd : decide (0 < n) = false := by simp; omega
          go_wp2
          refine named_box wr _ _ fun W0 hb0 hz0 hbx => ?_
          have d0 := fun p : Ext W0 => p.cell (hbx 0)
          have d1 := fun p : Ext W0 => p.cell (hbx 1)
          have d2 := fun p : Ext W0 => p.cell (hbx 2)
          have d3 := fun p : Ext W0 => p.cell (hbx 3)
          have d4 := fun p : Ext W0 => p.cell (below_cell hb0 hc0)
          have HC1 := Lib.hid (below_cell hb0 hc1)
          have HC0 := Lib.hid (below_cell hb0 hc0)
          clear hbx hc0 hc1 q0 q1 q2 q3
          refine wp_region_ext (by kernel_rfl) (by kernel_rfl) ?_
          repeat (go_big_quiet_step ((go_at_call 33; exact Ext.of (HC.out _))))
          refine wpQuiet_nil ?_
          rintro _ ⟨⟨W1, hb1⟩, rfl⟩
          go_wp2
          go_roundw
          case rel =>
            obtain rfl : n = 0 := by omega
            exact ⟨1, rfl, by omega, okTo_one HX.out HS.out, (hB.trans (hb0.mono hB.size)).trans (hb1.mono (by have := hB.size; omega)), by have := hb1.size; omega, below_cell hb1 HC0.out, below_cell hb1 HC1.out⟩
          case measure => simp [intOf]; omega
        · obtain ⟨m, rfl⟩ : ∃ m, n = m + 1 := ⟨n - 1, by omega⟩
          have hp := List.getElem?_eq_getElem (show m < l.length by omega)
          generalize l[m] = p0 at hp
          have r0 : wr.cell? ⟨b, off + m * 4, none⟩ = some (.int .i64 p0.at_) := (hB.cell (p := ⟨b, _, none⟩) hbl).trans (hrd m p0 hp 0 _ rfl)
          have HP := Lib.hid hp; clear hp
          by_cases hle : p0.at_ < s.at_
          · go_wp2
            refine named_box wr _ _ fun W0 hb0 hz0 hbx => ?_
            have d0 := fun p : Ext W0 => p.cell (hbx 0)
            have d1 := fun p : Ext W0 => p.cell (hbx 1)
            have d2 := fun p : Ext W0 => p.cell (hbx 2)
            have d3 := fun p : Ext W0 => p.cell (hbx 3)
            have d4 := fun p : Ext W0 => p.cell (below_cell hb0 hc0)
            have d5 := fun p : Ext W0 => p.cell (below_cell hb0 hc1)
            have d6 := fun p : Ext W0 => p.cell (below_cell hb0 r0)
            have HC1 := Lib.hid (below_cell hb0 hc1)
            have HC0 := Lib.hid (below_cell hb0 hc0)
            clear hbx hc0 hc1 q0 q1 q2 q3 r0
            refine wp_region_ext (by kernel_rfl) (by kernel_rfl) ?_
            repeat (go_big_quiet_step ((go_at_call 33; exact Ext.of (HC.out _))))
            refine wpQuiet_nil ?_
            rintro _ ⟨⟨W1, hb1⟩, rfl⟩
            go_wp2
            go_roundw
            case rel => exact ⟨m + 2, by go_num, by omega, okTo_succ hok HP.out HX.out HS.out hle, (hB.trans (hb0.mono hB.size)).trans (hb1.mono (by have := hB.size; omega)), by have := hb1.size; omega, below_cell hb1 HC0.out, below_cell hb1 HC1.out⟩
            case measure => simp [intOf]; omega
          · go_wp2
            refine named_box wr _ _ fun W0 hb0 hz0 hbx => ?_
            have d0 := fun p : Ext W0 => p.cell (hbx 0)
            have d1 := fun p : Ext W0 => p.cell (hbx 1)
            have d2 := fun p : Ext W0 => p.cell (hbx 2)
            have d3 := fun p : Ext W0 => p.cell (hbx 3)
            have d4 := fun p : Ext W0 => p.cell (below_cell hb0 hc0)
            have d5 := fun p : Ext W0 => p.cell (below_cell hb0 hc1)
            have d6 := fun p : Ext W0 => p.cell (below_cell hb0 r0)
            have HC1 := Lib.hid (below_cell hb0 hc1)
            have HC0 := Lib.hid (below_cell hb0 hc0)
            clear hbx hc0 hc1 q0 q1 q2 q3 r0
            refine wp_region_ext (by kernel_rfl) (by kernel_rfl) ?_
            repeat (go_big_quiet_step ((go_at_call 33; exact Ext.of (HC.out _))))
            refine wpQuiet_nil ?_
            rintro _ ⟨⟨W1, hb1⟩, rfl⟩
            go_wp2
            go_ret
            exact ⟨by rw [isLineP_bad2 HP.out HX.out (by omega)]; rfl, (hB.trans (hb0.mono hB.size)).trans (hb1.mono (by have := hB.size; omega))⟩
      · have hs' : isStepP k s = false := by simpa using hs
        have HC := Lib.hid (isStep_is hs')
        have HS := Lib.hid hs'; clear hs hs'
        go_wp2
        refine named_box wr _ _ fun W0 hb0 hz0 hbx => ?_
        have d0 := fun p : Ext W0 => p.cell (hbx 0)
        have d1 := fun p : Ext W0 => p.cell (hbx 1)
        have d2 := fun p : Ext W0 => p.cell (hbx 2)
        have d3 := fun p : Ext W0 => p.cell (hbx 3)
        have d4 := fun p : Ext W0 => p.cell (below_cell hb0 hc0)
        clear hbx hc0 hc1 q0 q1 q2 q3
        refine wp_region_ext (by kernel_rfl) (by kernel_rfl) ?_
        repeat (go_big_quiet_step ((go_at_call 33; exact Ext.of (HC.out _))))
        refine wpQuiet_nil ?_
        rintro _ ⟨⟨W1, hb1⟩, rfl⟩
        go_wp2
        go_ret
        exact ⟨by rw [isLineP_bad1 HX.out HS.out]; rfl, (hB.trans (hb0.mono hB.size)).trans (hb1.mono (by have := hB.size; omega))⟩
    · obtain rfl : n = l.length := by omega
      go_wp2
      go_ret
      exact ⟨by rw [isLineP_ok hk1 hk3 hl hok]; rfl, hB⟩
theorem isLine_any (k : Int) (v : Value) (l : List Step) (w : World) (hr : Rd Step.cells 4 w v l) :
    Calls Tryz.prog 14 #[.agg #[.int .i64 k, v]] w fun e w' => e = .returned (.bool (isLineP k l)) ∧ Below w.heap.size w w' := by
  by_cases hk1 : k < 1
  · have e := isLineP_kind (l := l) (.inl hk1)
    rw [e]
    obtain ⟨hn, a, c, rfl, hr⟩ := hr
    clear hr e
    go_enter Tryz.func14, Tryz.ntmps14
    go_wp2
    go_ret
    exact ⟨rfl, (Below.refl _ _).alloc (Nat.le_refl _) _⟩
  by_cases hk3 : 3 < k
  · have e := isLineP_kind (l := l) (.inr hk3)
    rw [e]
    obtain ⟨hn, a, c, rfl, hr⟩ := hr
    clear hr e
    go_enter Tryz.func14, Tryz.ntmps14
    go_wp2
    go_ret
    exact ⟨rfl, (Below.refl _ _).alloc (Nat.le_refl _) _⟩
  by_cases hl : 60 < l.length
  · have e := isLineP_long (k := k) hl
    rw [e]
    obtain ⟨hn, a, c, rfl, hr⟩ := hr
    clear hr e
    go_enter Tryz.func14, Tryz.ntmps14
    go_wp2
    go_ret
    exact ⟨rfl, (Below.refl _ _).alloc (Nat.le_refl _) _⟩
  exact isLine_in k v l w (by omega) (by omega) (by omega) hr
end Go.Proofs.YtkoeplbkeboklaaGreat
/- The plain side of retro: pairs, spans, lives; two lists compared from the front. No program in sight. -/
set_option linter.unusedVariables false
set_option linter.unusedSimpArgs false
namespace Go.Proofs.YtkoeplbkeboklaaGreat
structure Pair where
  key : Int
  val : Int
deriving DecidableEq
structure Span where
  from_ : Int
  to_ : Int
deriving DecidableEq
structure Life where
  from_ : Int
  to_ : Int
  key : Int
  val : Int
deriving DecidableEq
def eqTo {α : Type} (xs ys : List α) (n : Nat) : Prop := ∀ i x y, i < n → xs[i]? = some x → ys[i]? = some y → x = y
theorem eqTo_zero {α : Type} (xs ys : List α) : eqTo xs ys 0 := fun i x y h => by omega
theorem eqTo_succ {α : Type} {xs ys : List α} {n : Nat} {x y : α} (h : eqTo xs ys n) (hx : xs[n]? = some x) (hy : ys[n]? = some y) (he : x = y) : eqTo xs ys (n + 1) := by
  intro i a b hi ha hb
  by_cases e : i = n
  · subst e; rw [hx] at ha; cases ha; rw [hy] at hb; cases hb; exact he
  · exact h i a b (by omega) ha hb
theorem eqTo_bad {α : Type} [DecidableEq α] {xs ys : List α} {n : Nat} {x y : α} (hx : xs[n]? = some x) (hy : ys[n]? = some y) (he : ¬ x = y) : decide (xs = ys) = false := by
  refine decide_eq_false fun h => he ?_
  subst h; rw [hx] at hy; cases hy; rfl
theorem eqTo_all {α : Type} [DecidableEq α] {xs ys : List α} (hl : xs.length = ys.length) (h : eqTo xs ys ys.length) : decide (xs = ys) = true := by
  refine decide_eq_true (List.ext_getElem? fun i => ?_)
  by_cases hi : i < ys.length
  · rw [List.getElem?_eq_getElem hi, List.getElem?_eq_getElem (show i < xs.length by omega)]
    rw [h i _ _ hi (List.getElem?_eq_getElem (by omega)) (List.getElem?_eq_getElem hi)]
  · rw [List.getElem?_eq_none (by omega), List.getElem?_eq_none (by omega)]
end Go.Proofs.YtkoeplbkeboklaaGreat
/- The plain side of retro: what is held, and what a step makes of it, kind by kind. No program in sight. -/
set_option linter.unusedVariables false
set_option linter.unusedSimpArgs false
namespace Go.Proofs.YtkoeplbkeboklaaGreat
structure Held where
  key : Int
  val : Int
  from_ : Int
deriving DecidableEq
def heldOf (s : Step) : Held := ⟨s.key, s.val, s.at_⟩
def noneH : Held := ⟨0, 0, -1⟩
def stackDo (th : List Held) (s : Step) : List Held × Held :=
  if s.do_ = 1 then (th ++ [heldOf s], noneH) else match th.getLast? with
    | some h => (th.take (th.length - 1), h)
    | none => (th, noneH)
def queueDo (th : List Held) (s : Step) : List Held × Held :=
  if s.do_ = 1 then (th ++ [heldOf s], noneH) else match th with
    | h :: t => (t, h)
    | [] => ([], noneH)
def insH (h : Held) : List Held → List Held
  | [] => [h]
  | x :: l => if h.key < x.key then h :: x :: l else x :: insH h l
def mapDo (th : List Held) (s : Step) : List Held × Held :=
  ((if s.do_ = 1 then insH (heldOf s) (th.filter fun h => h.key != s.key) else th.filter fun h => h.key != s.key), (th.find? fun h => h.key == s.key).getD noneH)
def doP (k : Int) (th : List Held) (s : Step) : List Held × Held :=
  if k = 1 then stackDo th s else if k = 2 then queueDo th s else mapDo th s
end Go.Proofs.YtkoeplbkeboklaaGreat
/- Rows of the call's own that may begin within a block ('windows'), what they are told of, and what an append makes of them; which blocks a step may have turned. -/
set_option linter.unusedVariables false
set_option linter.unusedSimpArgs false
namespace Go.Proofs.YtkoeplbkeboklaaGreat
open Go.RowKit

/-! ### which blocks a step may have turned -/
/-- Of what lay in w, nothing but the blocks of S has turned. -/
structure Fr (S : Nat → Prop) (w W : World) : Prop where
  os : W.os = w.os
  tape : W.tape = w.tape
  output : W.output = w.output
  size : w.heap.size ≤ W.heap.size
  block : ∀ k, k < w.heap.size → ¬ S k → W.heap[k]? = w.heap[k]?
theorem fr_refl (S : Nat → Prop) (w : World) : Fr S w w := ⟨rfl, rfl, rfl, Nat.le_refl _, fun _ _ _ => rfl⟩
theorem fr_trans {S T : Nat → Prop} {w W W2 : World} (h : Fr S w W) (k : Fr T W W2) (hT : ∀ i, i < w.heap.size → T i → S i) : Fr S w W2 :=
  ⟨k.os.trans h.os, k.tape.trans h.tape, k.output.trans h.output, Nat.le_trans h.size k.size, fun i hi hS => (k.block i (Nat.lt_of_lt_of_le hi h.size) fun ht => hS (hT i hi ht)).trans (h.block i hi hS)⟩
theorem fr_mono {S T : Nat → Prop} {w W : World} (h : Fr S w W) (hT : ∀ i, S i → T i) : Fr T w W :=
  ⟨h.os, h.tape, h.output, h.size, fun i hi ht => h.block i hi fun hs => ht (hT i hs)⟩
theorem fr_of_below {S : Nat → Prop} {w W : World} (h : Below w.heap.size w W) : Fr S w W := ⟨h.os, h.tape, h.output, h.size, fun k hk _ => h.block k hk⟩
theorem below_of_fr {S : Nat → Prop} {w W : World} {B : Nat} (h : Fr S w W) (hB : B ≤ w.heap.size) (hS : ∀ i, S i → B ≤ i) : Below B w W :=
  ⟨h.os, h.tape, h.output, h.size, fun k hk => h.block k (by omega) fun hs => by have := hS k hs; omega⟩
theorem fr_cell {S : Nat → Prop} {w W : World} (h : Fr S w W) {a : Addr} {v : Value} (hc : w.cell? a = some v) (hS : ¬ S a.block) : W.cell? a = some v :=
  (World.cell?_of_block (h.block a.block (World.block_lt_of_cell? w a hc) hS)).trans hc
theorem fr_frozen {S : Nat → Prop} {w W : World} (h : Fr S w W) {a : Addr} (hl : a.block < w.heap.size) {b : Bool} (hc : w.frozen? a = b) (hS : ¬ S a.block) : W.frozen? a = b :=
  (World.frozen?_of_block (h.block a.block hl hS)).trans hc
theorem fr_grown {w W : World} {row : Option Nat} (h : w.grownBy W row) : Fr (fun i => some i = row) w W := ⟨h.os, h.tape, h.output, h.size, fun k hk hs => h.block k hk hs⟩
theorem fr_alloc (S : Nat → Prop) (w : World) (o : Obj) : Fr S w (w.alloc o) := fr_of_below ((Below.refl _ _).alloc (Nat.le_refl _) _)
theorem fr_setCell (w : World) (p : Addr) (u : Value) : Fr (fun i => i = p.block) w (w.setCell p u) :=
  ⟨rfl, rfl, rfl, by simp [World.setCell], fun k _ hs => Below.heap_setCell w p u k hs⟩
theorem fr_setRow (w : World) (g : Nat) (cs : Array Value) : Fr (fun i => i = g) w (w.setRow g cs) :=
  ⟨rfl, rfl, rfl, by simp [World.setRow], fun k _ hs => setRow_other w g k cs hs⟩
theorem fr_drewN (S : Nat → Prop) (w : World) (n : Nat) : Fr S w (w.drewN n) := ⟨rfl, rfl, rfl, Nat.le_refl _, fun _ _ _ => rfl⟩

/-! ### a call as a step of a region that draws its order -/
theorem step_call {P : Program} {ops : Array Oper} {o : Oper} {a : Act} {w : World} {K : Act → World → Prop} {Q : Exit → Act → World → Prop} {E : Prop} (hgd : o.guard = none) (f : FuncId) (fargs : Array Operand) (tys : Array TypeId)
    (ho : o.op = .call { callee := .value (.func f), args := fargs, argTypes := tys }) (he : ∀ args w, (callFunc f args).run P w = .ok (.enter f args) w) (args : Array Value) (hargs' : fargs.toList.map a.eval = args.toList)
    {R : Ending → World → Prop} (hc : Calls P f args w R) (h : ∀ e w', R e w' → ∃ v, e = .returned v ∧ K (a.put o.dst v) w') :
    if Region.wanted o (yielded ops a.tmps) = true then Oper.wp P o a w K Q else E := by
  have hw : Region.wanted o (yielded ops a.tmps) = true := by simp [Region.wanted, hgd]
  rw [if_pos hw]
  have hev : a.eval (.func f) = .func (.func f) #[] #[] := rfl
  have hargs : fargs.map a.eval = args := by
    apply Array.toList_inj.1
    rw [Array.toList_map]; exact hargs'
  unfold Oper.wp execOp
  simp only [ho, resolve, hev, hargs, Sem.run_bind, Sem.run_pure, Result.andThen_ok]
  simp only [invoke, Array.empty_append, Array.append_empty]
  simp [go_sem, he]
  refine hc.mono ?_
  intro e w' hr
  obtain ⟨v, rfl, hk⟩ := h e w' hr
  exact hk

/-- A method called on an interface value. -/
theorem wpList_invoke {P : Program} {ops : Array Oper} {rest : List Oper} {o : Oper} {a : Act} {w : World} {Q : Exit → Act → World → Prop} (hgd : o.guard = none) (r y : Operand) (nm : String) (tys : Array TypeId)
    (hop : o.op = .call { callee := .invoke r nm, args := #[y], argTypes := tys }) (rv sv : Value) (hr : a.eval r = rv) (hy : a.eval y = sv) (f : FuncId) (args : Array Value)
    (hm : ∀ w, (callMethod rv nm #[sv]).run P w = .ok (.enter f args) w) {R : Ending → World → Prop} (hc : Calls P f args w R) (h : ∀ e w', R e w' → ∃ v, e = .returned v ∧ wpList P ops Q rest (a.put o.dst v) w') : wpList P ops Q (o :: rest) a w := by
  refine wpList_plain hgd fun K' hK' => ?_
  unfold Oper.wp execOp
  simp only [hop, resolve, Sem.run_bind, Sem.run_pure, Result.andThen_ok, List.map_toArray, List.map_cons, List.map_nil, hr, hy]
  have he : (#[rv] ++ #[sv] : Array Value).extract 1 (#[rv] ++ #[sv] : Array Value).size = #[sv] := by simp
  have h0 : (#[rv] ++ #[sv] : Array Value)[0]? = some rv := by simp
  simp only [invoke, h0, he, hm, Oper.upon]
  refine hc.mono ?_
  intro e w' hr'
  obtain ⟨v, rfl, hk⟩ := h e w' hr'
  exact hK' _ _ hk

/-! ### windows -/
/-- v is a slice of n elements (k cells each, cs in all) in a block of S's, which nothing freezes. -/
def WinC (k e : Nat) (w : World) (v : Value) (S : Nat → Prop) (n : Nat) (cs : List Value) : Prop :=
  cs.length = n * k ∧ ((v = .slice none 0 0 ∧ n = 0) ∨ ∃ g off cap cur, v = .slice (some ⟨g, off, none⟩) n cap ∧ S g ∧ w.heap[g]? = some (.cells cur e (0, 0)) ∧ n ≤ cap ∧ cap ≤ maxLen ∧ off + cap * k ≤ cur.size ∧ (cur.toList.drop off).take (n * k) = cs)
theorem winC_nil (k e : Nat) (w : World) (S : Nat → Prop) : WinC k e w (.slice none 0 0) S 0 [] := ⟨by simp, .inl ⟨rfl, rfl⟩⟩
theorem winC_move {k e : Nat} {w W : World} {v : Value} {S T : Nat → Prop} {n : Nat} {cs : List Value} (h : WinC k e w v S n cs) (hf : Fr T w W) (hT : ∀ i, S i → ¬ T i) : WinC k e W v S n cs := by
  obtain ⟨hl, h⟩ := h
  refine ⟨hl, ?_⟩
  rcases h with h | ⟨g, off, cap, cur, hv, hS, hg, r⟩
  · exact .inl h
  · exact .inr ⟨g, off, cap, cur, hv, hS, (hf.block g (Array.getElem?_eq_some_iff.1 hg).1 (hT g hS)).trans hg, r⟩
theorem winC_mono {k e : Nat} {w : World} {v : Value} {S T : Nat → Prop} {n : Nat} {cs : List Value} (h : WinC k e w v S n cs) (hT : ∀ i, S i → T i) : WinC k e w v T n cs := by
  obtain ⟨hl, h⟩ := h
  refine ⟨hl, ?_⟩
  rcases h with h | ⟨g, off, cap, cur, hv, hS, r⟩
  · exact .inl h
  · exact .inr ⟨g, off, cap, cur, hv, hT g hS, r⟩
theorem winC_own {k e : Nat} {w : World} {v : Value} {base n : Nat} {cs : List Value} (h : w.ownsRow base e k v n cs) : WinC k e w v (fun i => some i = v.ownBlock) n cs := by
  obtain ⟨hl, h⟩ := h
  refine ⟨hl, ?_⟩
  rcases h with ⟨h, h0⟩ | ⟨g, cap, cur, rfl, hb, hg, hn, hc, hs, ht⟩
  · exact .inl ⟨h, h0⟩
  · exact .inr ⟨g, 0, cap, cur, rfl, by simp [Value.ownBlock], hg, hn, hc, by omega, by simpa using ht⟩
theorem winC_block {k e : Nat} {w : World} {v : Value} {S : Nat → Prop} {n : Nat} {cs : List Value} (h : WinC k e w v S n cs) : WinC k e w v (fun i => some i = v.ownBlock ∧ S i ∧ i < w.heap.size) n cs := by
  obtain ⟨hl, h⟩ := h
  refine ⟨hl, ?_⟩
  rcases h with h | ⟨g, off, cap, cur, rfl, hS, hg, r⟩
  · exact .inl h
  · exact .inr ⟨g, off, cap, cur, rfl, ⟨rfl, hS, (Array.getElem?_eq_some_iff.1 hg).1⟩, hg, r⟩
theorem winC_slice {k e : Nat} {w : World} {v : Value} {S : Nat → Prop} {n : Nat} {cs : List Value} (h : WinC k e w v S n cs) : ∃ a c, v = .slice a n c ∧ n ≤ c ∧ n ≤ 9223372036854775807 := by
  rcases h.2 with ⟨rfl, rfl⟩ | ⟨g, off, cap, cur, rfl, hS, hg, hn, hm, r⟩
  · exact ⟨none, 0, rfl, by simp, by simp⟩
  · exact ⟨_, cap, rfl, hn, by simp only [maxLen] at hm; omega⟩
theorem winC_ob {k e : Nat} {w : World} {v : Value} {S : Nat → Prop} {n : Nat} {cs : List Value} (h : WinC k e w v S n cs) : ∀ i, some i = v.ownBlock → S i ∧ i < w.heap.size := by
  intro i hi
  rcases h.2 with ⟨rfl, _⟩ | ⟨g, off, cap, cur, rfl, hS, hg, r⟩
  · simp [Value.ownBlock] at hi
  · simp [Value.ownBlock] at hi
    subst hi
    exact ⟨hS, (Array.getElem?_eq_some_iff.1 hg).1⟩
theorem addr_add (g off n : Nat) : (⟨g, off, none⟩ : Addr).add n = ⟨g, off + n, none⟩ := by unfold Addr.add; split <;> simp_all
theorem winC_cells {k e : Nat} {w : World} {g off n cap : Nat} {S : Nat → Prop} {cs : List Value} (h : WinC k e w (.slice (some ⟨g, off, none⟩) n cap) S n cs) :
    ∀ j u, cs[j]? = some u → w.cell? ⟨g, off + j, none⟩ = some u := by
  intro j u hu
  rcases h.2 with ⟨hv, _⟩ | ⟨g', off', cap', cur, hv, hS, hg, hn, hm, hs, ht⟩
  · simp at hv
  · injection hv with h1 h2 h3
    injection h1 with h1
    injection h1 with h1 h4
    subst h1; subst h4; subst h3
    rw [cell_of_row w g (off + j) cur e (0, 0) hg]
    rw [← ht, List.getElem?_take] at hu
    split at hu
    · rw [List.getElem?_drop] at hu; simpa using hu
    · cases hu

section
variable {P : Program} (w : World)
/-- An append to a window, of m elements that are read somewhere. -/
theorem run_append_win (t ty e : TypeId) (i : TypeInfo) (z : Value) (k bytes : Nat) (ht : P.underlying t = some (.slice e)) (hi : P.info? e = some i) (hz : i.zero = some z)
    (hsize : i.size = k) (hby : i.bytes = bytes) (hzs : z.cells.size = k) (hk : 0 < k)
    (v : Value) (S : Nat → Prop) (n : Nat) (xs : List Value) (hwin : WinC k e w v S n xs)
    (a : Addr) (m c : Nat) (news : List Value) (hl : news.length = m * k) (hnews : ∀ j u, news[j]? = some u → w.cell? (a.add j) = some u) (h1 : ∀ u ∈ news, u.oneCell' = true)
    (hm : 0 < m) (h63 : n + m ≤ maxLen) (hbytes : (n + m) * bytes ≤ 140737488355328) :
    ∃ v' w', (Builtin.append_ #[t, t] ty #[v, .slice (some a) m c]).run P w = .ok v' w' ∧ WinC k e w' v' (fun i => (S i ∧ i < w.heap.size) ∨ i = w.heap.size) (n + m) (xs ++ news) ∧ Fr (fun i => some i = v.ownBlock) w w' ∧ w'.heap.size ≤ w.heap.size + 1 := by
  subst hsize
  subst hby
  have hsmall : n + m ≤ 9223372036854775807 := by simp only [maxLen] at h63; omega
  have hlen : (xs ++ news).length = (n + m) * i.size := by rw [List.length_append, hwin.1, hl, Nat.add_mul]
  have grown : ∀ (old : Nat), old < n + m →
      WinC i.size e (w.drew.alloc (.cells (xs.toArray ++ news.toArray ++ Builtin.zeroCells z.cells (grownCap w (n + m) old e - (n + m))) e))
        (.slice (some ⟨w.heap.size, 0, none⟩) (n + m) (grownCap w (n + m) old e)) (fun i => (S i ∧ i < w.heap.size) ∨ i = w.heap.size) (n + m) (xs ++ news) ∧
      ∀ row, w.grownBy (w.drew.alloc (.cells (xs.toArray ++ news.toArray ++ Builtin.zeroCells z.cells (grownCap w (n + m) old e - (n + m))) e)) row := by
    intro old ho
    have hge := grownCap_ge w (n + m) old e
    have hcm : grownCap w (n + m) old e ≤ maxLen := grownCap_le_maxLen w (n + m) old e h63
    refine ⟨⟨hlen, .inr ⟨w.heap.size, 0, _, _, rfl, .inr rfl, heap_alloc_new w.drew _, hge, hcm, ?_, ?_⟩⟩, fun row => ⟨rfl, rfl, rfl, by simp, fun k hk _ => Below.heap_alloc w.drew _ k hk⟩⟩
    · simp only [Array.size_append, List.size_toArray, size_zeroCells, hzs, hwin.1, hl, ← Nat.add_mul, Nat.zero_add]
      refine Nat.le_of_eq ?_
      congr 1
      omega
    · simp only [Array.toList_append, List.append_assoc, List.drop_zero]
      rw [← List.append_assoc, ← hlen]
      exact List.take_left
  rcases hwin.2 with ⟨rfl, rfl⟩ | ⟨g, off, cap, cur, rfl, hS, hg, hnc, hcm, hcs, htake⟩
  · have hx : xs = [] := List.eq_nil_of_length_eq_zero (by simpa using hwin.1)
    subst hx
    have hr := run_append_nil (P := P) w t ty e i z ht hi hz a m c news hl hnews (by omega) (by omega) (by have hb := hbytes; simp only [Nat.zero_add] at hb; omega)
    have hgr := grown 0 (by omega)
    simp only [Nat.zero_add, List.nil_append, Array.empty_append] at hgr ⊢
    exact ⟨_, _, hr, hgr.1, fr_grown (hgr.2 _), by simp⟩
  · by_cases hroom : n + m ≤ cap
    · have hfit : off + n * i.size + news.length ≤ cur.size := by
        have : (n + m) * i.size ≤ cap * i.size := Nat.mul_le_mul_right _ hroom
        rw [Nat.add_mul] at this
        rw [hl]; omega
      have hf := run_firstCells_some (P := P) w i.size m a m c news hl hnews
      have hst := run_storeCells_at P g (off + n * i.size) e news 0 cur w hg (by simpa using hfit) h1
      simp only [Nat.add_zero] at hst
      have hr : (Builtin.append_ #[t, t] ty #[.slice (some ⟨g, off, none⟩) n cap, .slice (some a) m c]).run P w =
          .ok (.slice (some ⟨g, off, none⟩) (n + m) cap) (w.setRow g (cur.toList.take (off + n * i.size) ++ news ++ cur.toList.drop (off + n * i.size + news.length)).toArray) := by
        simp [Builtin.append_, run_underlying ht, sizeOf, typeInfo, hi, Builtin.lenOf, hroom, hf, addr_add, hst]
      refine ⟨_, _, hr, ⟨hlen, .inr ⟨g, off, cap, _, rfl, .inl ⟨hS, (Array.getElem?_eq_some_iff.1 hg).1⟩, setRow_heap w g cur _ e _ hg, hroom, hcm, ?_, ?_⟩⟩, fr_mono (fr_setRow w g _) (fun i hi => by simp [Value.ownBlock, hi]), by simp [World.setRow]⟩
      · simp only [List.size_toArray, List.length_append, List.length_take, List.length_drop, Array.length_toList]
        omega
      · have hxl := hwin.1
        show List.take ((n + m) * i.size) (List.drop off (cur.toList.take (off + n * i.size) ++ news ++ cur.toList.drop (off + n * i.size + news.length))) = xs ++ news
        have e1 : List.drop off (cur.toList.take (off + n * i.size)) = xs := by
          rw [List.drop_take, show off + n * i.size - off = n * i.size by omega]
          exact htake
        rw [List.append_assoc, List.drop_append_of_le_length (by rw [List.length_take, Array.length_toList]; omega), e1, ← List.append_assoc, ← hlen]
        exact List.take_left
    · have holds : ∀ j u, xs[j]? = some u → w.cell? ((⟨g, off, none⟩ : Addr).add j) = some u := fun j u hu => by rw [addr_add]; exact winC_cells hwin j u hu
      have hr := run_append_grow (P := P) w t ty e i z ht hi hz ⟨g, off, none⟩ n cap xs hwin.1 holds a m c news hl hnews (by omega) (by omega) (growslice_fits (by omega) hbytes)
      have hgr := grown cap (by omega)
      exact ⟨_, _, hr, hgr.1, fr_grown (hgr.2 _), by simp⟩

theorem wp_append_win {o : Oper} {a : Act} {K : Act → World → Prop} {Q : Exit → Act → World → Prop} (s x : Operand) (t : TypeId)
    (ho : o.op = .call { callee := .builtin .append, args := #[s, x], argTypes := #[t, t] })
    (e : TypeId) (k bytes : Nat) (z : Value) (ht : P.underlying t = some (.slice e)) (hinfo : (P.info? e).map (fun i => (i.zero, i.size, i.bytes)) = some (some z, k, bytes)) (hzs : z.cells.size = k) (hk : 0 < k)
    (v : Value) (S : Nat → Prop) (n : Nat) (xs : List Value) (hs : a.eval s = v) (hwin : WinC k e w v S n xs)
    (ad : Addr) (m c : Nat) (news : List Value) (hx : a.eval x = .slice (some ad) m c) (hl : news.length = m * k) (hnews : ∀ j u, news[j]? = some u → w.cell? (ad.add j) = some u) (h1 : ∀ u ∈ news, u.oneCell' = true)
    (hm : 0 < m) (h63 : n + m ≤ maxLen) (hbytes : (n + m) * bytes ≤ 140737488355328)
    (h : ∀ v' w', WinC k e w' v' (fun i => (S i ∧ i < w.heap.size) ∨ i = w.heap.size) (n + m) (xs ++ news) → Fr (fun i => some i = v.ownBlock) w w' → w'.heap.size ≤ w.heap.size + 1 → K (a.put o.dst v') w') : o.wp P a w K Q := by
  obtain ⟨i, hi, hzz⟩ := Option.map_eq_some_iff.1 hinfo
  simp only [Prod.mk.injEq] at hzz
  obtain ⟨v', w', hr, h2, h3, h4⟩ := run_append_win (P := P) w t o.type e i z k bytes ht hi hzz.1 hzz.2.1 hzz.2.2 hzs hk v S n xs hwin ad m c news hl hnews h1 hm h63 hbytes
  unfold Oper.wp execOp
  simp only [ho, resolve, invoke, builtin, Sem.run_bind, Sem.run_pure, Result.andThen_ok, List.map_toArray, List.map_cons, List.map_nil, hs, hx, hr]
  exact h v' w' h2 h3 h4
theorem wpList_append_win {ops : Array Oper} {rest : List Oper} {o : Oper} {a : Act} {Q : Exit → Act → World → Prop} (hgd : o.guard = none) (s x : Operand) (t : TypeId)
    (ho : o.op = .call { callee := .builtin .append, args := #[s, x], argTypes := #[t, t] })
    (e : TypeId) (k bytes : Nat) (z : Value) (ht : P.underlying t = some (.slice e)) (hinfo : (P.info? e).map (fun i => (i.zero, i.size, i.bytes)) = some (some z, k, bytes)) (hzs : z.cells.size = k) (hk : 0 < k)
    (v : Value) (S : Nat → Prop) (n : Nat) (xs : List Value) (hs : a.eval s = v) (hwin : WinC k e w v S n xs)
    (ad : Addr) (m c : Nat) (news : List Value) (hx : a.eval x = .slice (some ad) m c) (hl : news.length = m * k) (hnews : ∀ j u, news[j]? = some u → w.cell? (ad.add j) = some u) (h1 : ∀ u ∈ news, u.oneCell' = true)
    (hm : 0 < m) (h63 : n + m ≤ maxLen) (hbytes : (n + m) * bytes ≤ 140737488355328)
    (h : ∀ v' w', WinC k e w' v' (fun i => (S i ∧ i < w.heap.size) ∨ i = w.heap.size) (n + m) (xs ++ news) → Fr (fun i => some i = v.ownBlock) w w' → w'.heap.size ≤ w.heap.size + 1 → wpList P ops Q rest (a.put o.dst v') w') : wpList P ops Q (o :: rest) a w :=
  wpList_plain hgd fun _ hK => wp_append_win w s x t ho e k bytes z ht hinfo hzs hk v S n xs hs hwin ad m c news hx hl hnews h1 hm h63 hbytes fun v' w' h2 h3 h4 => hK _ _ (h v' w' h2 h3 h4)
theorem step_append_win {ops : Array Oper} {o : Oper} {a : Act} {K : Act → World → Prop} {Q : Exit → Act → World → Prop} {E : Prop} (hgd : o.guard = none) (s x : Operand) (t : TypeId)
    (ho : o.op = .call { callee := .builtin .append, args := #[s, x], argTypes := #[t, t] })
    (e : TypeId) (k bytes : Nat) (z : Value) (ht : P.underlying t = some (.slice e)) (hinfo : (P.info? e).map (fun i => (i.zero, i.size, i.bytes)) = some (some z, k, bytes)) (hzs : z.cells.size = k) (hk : 0 < k)
    (v : Value) (S : Nat → Prop) (n : Nat) (xs : List Value) (hs : a.eval s = v) (hwin : WinC k e w v S n xs)
    (ad : Addr) (m c : Nat) (news : List Value) (hx : a.eval x = .slice (some ad) m c) (hl : news.length = m * k) (hnews : ∀ j u, news[j]? = some u → w.cell? (ad.add j) = some u) (h1 : ∀ u ∈ news, u.oneCell' = true)
    (hm : 0 < m) (h63 : n + m ≤ maxLen) (hbytes : (n + m) * bytes ≤ 140737488355328)
    (h : ∀ v' w', WinC k e w' v' (fun i => (S i ∧ i < w.heap.size) ∨ i = w.heap.size) (n + m) (xs ++ news) → Fr (fun i => some i = v.ownBlock) w w' → w'.heap.size ≤ w.heap.size + 1 → K (a.put o.dst v') w') :
    if Region.wanted o (yielded ops a.tmps) = true then Oper.wp P o a w K Q else E := by
  have hw : Region.wanted o (yielded ops a.tmps) = true := by simp [Region.wanted, hgd]
  rw [if_pos hw]
  exact wp_append_win w s x t ho e k bytes z ht hinfo hzs hk v S n xs hs hwin ad m c news hx hl hnews h1 hm h63 hbytes h
end

/-! ### what is to be appended, in a block that has just been laid -/
theorem news1 (w : World) (cs : Array Value) (T : TypeId) : ∀ j u, cs.toList[j]? = some u → (w.alloc (.cells cs T)).cell? ((⟨w.heap.size, 0, none⟩ : Addr).add j) = some u := World.news_of_block (heap_alloc_new w _)
theorem news2 (w : World) (o : Obj) (cs : Array Value) (T : TypeId) : ∀ j u, cs.toList[j]? = some u → ((w.alloc o).alloc (.cells cs T)).cell? ((⟨w.heap.size + 1, 0, none⟩ : Addr).add j) = some u := by
  have := news1 (w.alloc o) cs T
  rwa [World.size_alloc] at this
theorem rd_move {α : Type} {enc : α → List Value} {k : Nat} {w W : World} {v : Value} {xs : List α} {S : Nat → Prop} (h : Rd enc k w v xs) (hf : Fr S w W) (hS : ∀ i, some i = v.ownBlock → ¬ S i) : Rd enc k W v xs := by
  obtain ⟨h0, a, c, rfl, h⟩ := h
  refine ⟨h0, a, c, rfl, fun hl => ?_⟩
  obtain ⟨b, off, rfl, hlt, hr⟩ := h hl
  exact ⟨b, off, rfl, Nat.lt_of_lt_of_le hlt hf.size, fun i x hx j u hu => fr_cell hf (hr i x hx j u hu) (hS b rfl)⟩
theorem rd_at {α : Type} {enc : α → List Value} {k : Nat} {w : World} {a : Option Addr} {n c : Nat} {xs : List α} (h : Rd enc k w (.slice a n c) xs) {i : Nat} {x : α} (hx : xs[i]? = some x) :
    ∃ b off, a = some ⟨b, off, none⟩ ∧ b < w.heap.size ∧ ∀ j u, (enc x)[j]? = some u → w.cell? ⟨b, off + i * k + j, none⟩ = some u := by
  obtain ⟨h0, a', c', he, h⟩ := h
  injection he with h1 h2 h3
  subst h1
  have hl := (List.getElem?_eq_some_iff.1 hx).1
  obtain ⟨b, off, rfl, hlt, hr⟩ := h (by omega)
  exact ⟨b, off, rfl, hlt, hr i x hx⟩

/-! ### windows of elements -/
theorem flat_len {α : Type} {enc : α → List Value} {k : Nat} (hk : ∀ x, (enc x).length = k) : ∀ xs : List α, (xs.flatMap enc).length = xs.length * k
  | [] => by simp
  | x :: xs => by rw [List.flatMap_cons, List.length_append, flat_len hk xs, hk, List.length_cons, Nat.add_mul, Nat.one_mul, Nat.add_comm]
theorem flat_get {α : Type} {enc : α → List Value} {k : Nat} (hk : ∀ x, (enc x).length = k) : ∀ (xs : List α) (i : Nat) (x : α), xs[i]? = some x → ∀ j u, (enc x)[j]? = some u → (xs.flatMap enc)[i * k + j]? = some u
  | [], i, x, h, j, u, hu => by simp at h
  | y :: xs, 0, x, h, j, u, hu => by
    simp only [List.getElem?_cons_zero, Option.some.injEq] at h
    subst h
    have := (List.getElem?_eq_some_iff.1 hu).1
    rw [List.flatMap_cons, Nat.zero_mul, Nat.zero_add, List.getElem?_append_left this]
    exact hu
  | y :: xs, i + 1, x, h, j, u, hu => by
    rw [List.flatMap_cons, List.getElem?_append_right (by rw [hk, Nat.add_mul, Nat.one_mul]; omega), hk, show (i + 1) * k + j - k = i * k + j by rw [Nat.add_mul, Nat.one_mul]; omega]
    exact flat_get hk xs i x (by simpa using h) j u hu
def Win {α : Type} (enc : α → List Value) (k e : Nat) (w : World) (v : Value) (S : Nat → Prop) (xs : List α) : Prop := WinC k e w v S xs.length (xs.flatMap enc)
theorem win_nil {α : Type} (enc : α → List Value) (k e : Nat) (w : World) (S : Nat → Prop) : Win enc k e w (.slice none 0 0) S ([] : List α) := winC_nil k e w S
theorem win_own {α : Type} {enc : α → List Value} {k e : Nat} {w : World} {v : Value} {base : Nat} {xs : List α} (h : w.ownsRow base e k v xs.length (xs.flatMap enc)) : Win enc k e w v (fun i => some i = v.ownBlock) xs := winC_own h
theorem win_rd {α : Type} {enc : α → List Value} {k e : Nat} {w : World} {v : Value} {S : Nat → Prop} {xs : List α} (hk : ∀ x, (enc x).length = k) (h : Win enc k e w v S xs) : Rd enc k w v xs := by
  obtain ⟨a, c, rfl, hn, hm⟩ := winC_slice h
  refine ⟨hm, a, c, rfl, fun hpos => ?_⟩
  rcases h.2 with ⟨hv, h0⟩ | ⟨g, off, cap, cur, hv, hS, hg, r⟩
  · omega
  · injection hv with h1 h2 h3
    subst h1
    exact ⟨g, off, rfl, (Array.getElem?_eq_some_iff.1 hg).1, fun i x hx j u hu => by rw [Nat.add_assoc]; exact winC_cells h _ u (flat_get hk xs i x hx j u hu)⟩
/-- Made shorter at its end. -/
theorem win_pop {α : Type} {enc : α → List Value} {k e : Nat} {w : World} {a : Option Addr} {c n : Nat} {S : Nat → Prop} {xs : List α} (hk : ∀ x, (enc x).length = k) (h : Win enc k e w (.slice a n c) S xs) (hn : xs.length = n) (m : Nat) (hm : m ≤ n) (h0 : 0 < n) :
    Win enc k e w (.slice a m c) S (xs.take m) := by
  obtain ⟨hl, h⟩ := h
  have hlt : (xs.take m).length = m := by rw [List.length_take]; omega
  refine ⟨flat_len hk _, ?_⟩
  rcases h with ⟨hv, h'⟩ | ⟨g, off, cap, cur, hv, hS, hg, hnc, hcm, hcs, ht⟩
  · omega
  · injection hv with h1 h2 h3
    subst h1; subst h3
    refine .inr ⟨g, off, c, cur, by rw [hlt], hS, hg, by omega, hcm, hcs, ?_⟩
    have e1 : ∀ (ys : List α) (m : Nat), (ys.take m).flatMap enc = (ys.flatMap enc).take (m * k) := by
      intro ys
      induction ys with
      | nil => intro m; simp
      | cons y ys ih =>
        intro m
        cases m with
        | zero => simp
        | succ m => rw [List.take_succ_cons, List.flatMap_cons, List.flatMap_cons, ih, List.take_append, List.take_of_length_le (l := enc y) (by rw [hk, Nat.add_mul, Nat.one_mul]; omega), hk, show (m + 1) * k - k = m * k by rw [Nat.add_mul, Nat.one_mul]; omega]
    rw [e1, ← ht, List.take_take, hlt, Nat.min_eq_left]
    exact Nat.mul_le_mul_right _ (by omega)
/-- Made shorter at its head. -/
theorem win_tail {α : Type} {enc : α → List Value} {k e : Nat} {w : World} {g off c : Nat} {S : Nat → Prop} {x : α} {xs : List α} (hk : ∀ x, (enc x).length = k) (h : Win enc k e w (.slice (some ⟨g, off, none⟩) (xs.length + 1) c) S (x :: xs)) :
    Win enc k e w (.slice (some ⟨g, off + k, none⟩) xs.length (c - 1)) S xs ∧ (c = 1 → Win enc k e w (.slice (some ⟨g, off, none⟩) xs.length (c - 1)) S xs) := by
  obtain ⟨hl, h⟩ := h
  rcases h with ⟨hv, h'⟩ | ⟨g', off', cap, cur, hv, hS, hg, hnc, hcm, hcs, ht⟩
  · simp at hv
  · injection hv with h1 h2 h3
    injection h1 with h1
    injection h1 with h1 h4
    subst h1; subst h4; subst h3
    simp only [List.length_cons] at hnc ht
    have hck : c * k = (c - 1) * k + k := by rw [← Nat.succ_mul]; congr 1; omega
    have e1 : List.take (xs.length * k) (List.drop (off + k) cur.toList) = xs.flatMap enc := by
      have : List.drop k (List.take ((xs.length + 1) * k) (List.drop off cur.toList)) = List.drop k ((x :: xs).flatMap enc) := by rw [ht]
      rw [List.drop_take, List.drop_drop, List.flatMap_cons] at this
      rw [show (xs.length + 1) * k - k = xs.length * k by rw [Nat.add_mul, Nat.one_mul]; omega] at this
      rw [this, ← hk x, List.drop_left]
    refine ⟨⟨flat_len hk _, .inr ⟨g, off + k, c - 1, cur, rfl, hS, hg, by omega, by omega, by omega, e1⟩⟩, fun hc => ?_⟩
    have h0 : xs = [] := List.eq_nil_of_length_eq_zero (by omega)
    subst h0
    exact ⟨by simp, .inr ⟨g, off, c - 1, cur, rfl, hS, hg, by simp, by omega, by omega, by simp⟩⟩
end Go.Proofs.YtkoeplbkeboklaaGreat
/- retro: what is held: the walks of came, nothing, and of a stack's do. -/
set_option linter.unusedVariables false
set_option linter.unusedSimpArgs false
namespace Go.Proofs.YtkoeplbkeboklaaGreat
open Go.RowKit
def Held.cells (s : Held) : List Value := [.int .i64 s.key, .int .i64 s.val, .int .i64 s.from_]
theorem held_len (x : Held) : x.cells.length = 3 := rfl
theorem info_held : (Tryz.prog.info? 58).map (fun i => (i.zero, i.size, i.bytes)) = some (some (.agg #[.int .i64 0, .int .i64 0, .int .i64 0]), 3, 24) := by kernel_rfl

theorem came_any (s : Step) (w : World) : Calls Tryz.prog 34 #[.agg #[.int .i64 s.at_, .int .i64 s.do_, .int .i64 s.key, .int .i64 s.val]] w fun e w' => e = .returned (.agg #[.int .i64 s.key, .int .i64 s.val, .int .i64 s.at_]) ∧ Below w.heap.size w w' := by
  obtain ⟨a, d, ky, v⟩ := s
  go_enter Tryz.func34, Tryz.ntmps34
  go_wp2
  exact bodyPost_ret (v := .agg #[.int .i64 ky, .int .i64 v, .int .i64 a]) (by simp [results, Tryz.results34, go_sem]) rfl ⟨rfl, (((Below.refl _ _).alloc (Nat.le_refl _) _).alloc (by simp) _)⟩
theorem nothing_any (w : World) : Calls Tryz.prog 119 #[] w fun e w' => e = .returned (.agg #[.int .i64 0, .int .i64 0, .int .i64 (-1)]) ∧ Below w.heap.size w w' := by
  go_enter Tryz.func119, Tryz.ntmps119
  go_wp2
  exact bodyPost_ret (v := .agg #[.int .i64 0, .int .i64 0, .int .i64 (-1)]) (by simp [results, Tryz.results119, go_sem]) rfl ⟨rfl, (Below.refl _ _).alloc (Nat.le_refl _) _⟩

/-- What lies behind the interface value: a stack, a queue. -/
def ListAt (T : Nat) (w : World) (S : Nat → Prop) (B : Nat) (th : List Held) : Prop :=
  S B ∧ ∃ v, w.heap[B]? = some (.cells #[v] T (0, 0)) ∧ Win Held.cells 3 58 w v (fun i => S i ∧ i ≠ B) th

theorem listAt_move {T : Nat} {w W : World} {S R : Nat → Prop} {B : Nat} {th : List Held} (h : ListAt T w S B th) (hf : Fr R w W) (hR : ∀ i, S i → ¬ R i) : ListAt T W S B th := by
  obtain ⟨hB, v, hb, hw⟩ := h
  exact ⟨hB, v, (hf.block B (Array.getElem?_eq_some_iff.1 hb).1 (hR B hB)).trans hb, winC_move hw hf fun i hi => hR i hi.1⟩
/-- The end of a do: what is handed back has been written into a block of the call's own. -/
theorem do_end {T : Nat} {w W3 W5 : World} {S S' : Nat → Prop} {B r : Nat} {th : List Held} (hF : Fr S w W3) (hL : ListAt T W3 S' B th) (hS : ∀ i, S' i → S i ∨ w.heap.size ≤ i) (hr : ¬ S' r) (hrw : w.heap.size ≤ r) (h5 : Fr (fun i => i = r) W3 W5) :
    ∃ S', ListAt T W5 S' B th ∧ (∀ i, S' i → S i ∨ w.heap.size ≤ i) ∧ Fr S w W5 :=
  ⟨S', listAt_move hL h5 (fun i hi e => hr (e ▸ hi)), hS, fr_trans hF h5 fun i hi e => by omega⟩
theorem stored3 (w : World) (r : Nat) (a b c : Value) : Fr (fun i => i = r) w (((w.setCell ⟨r, 0, none⟩ a).setCell ⟨r, 1, none⟩ b).setCell ⟨r, 2, none⟩ c) :=
  fr_trans (fr_trans (fr_setCell w ⟨r, 0, none⟩ a) (fr_setCell _ ⟨r, 1, none⟩ b) fun i _ h => h) (fr_setCell _ ⟨r, 2, none⟩ c) fun i _ h => h

/-- A shorter window stored back into its variable. -/
theorem listAt_store {T : Nat} {w : World} {S : Nat → Prop} {B : Nat} {v0 v : Value} {th : List Held} (hB : w.heap[B]? = some (.cells #[v0] T (0, 0))) (hSB : S B) (hW : Win Held.cells 3 58 w v (fun i => S i ∧ i ≠ B) th) :
    ListAt T (w.setCell ⟨B, 0, none⟩ v) S B th := by
  refine ⟨hSB, v, ?_, winC_move hW (fr_setCell w ⟨B, 0, none⟩ v) fun i hi => hi.2⟩
  simp [World.setCell, Array.getElem?_modify, hB]
theorem three_mid (W : World) (o1 o2 o3 : Obj) : (((W.alloc o1).alloc o2).alloc o3).heap[W.heap.size + 1]? = some o2 := by
  refine (Below.heap_alloc _ _ _ (by simp)).trans ?_
  have := heap_alloc_new (W.alloc o1) o2
  rwa [World.size_alloc] at this
theorem three_below (W : World) (o1 o2 o3 : Obj) : Below W.heap.size W (((W.alloc o1).alloc o2).alloc o3) := (((Below.refl _ _).alloc (Nat.le_refl _) _).alloc (by simp) _).alloc (by simp; omega) _
theorem size_setCell' (w : World) (p : Addr) (v : Value) : (w.setCell p v).heap.size = w.heap.size := by simp [World.setCell]
set_option maxHeartbeats 1000000 in
theorem stack_in (B : Nat) (S : Nat → Prop) (th : List Held) (s : Step) (w : World) (hd : s.do_ = 1) (h : ListAt 107 w S B th) (hth : th.length < 1000000) :
    Calls Tryz.prog 118 #[.pointer (some ⟨B, 0, none⟩), .agg #[.int .i64 s.at_, .int .i64 s.do_, .int .i64 s.key, .int .i64 s.val]] w fun e w' =>
      e = .returned (.agg #[.int .i64 0, .int .i64 0, .int .i64 (-1)]) ∧ ∃ S', ListAt 107 w' S' B (th ++ [heldOf s]) ∧ (∀ i, S' i → S i ∨ w.heap.size ≤ i) ∧ Fr S w w' := by
  obtain ⟨hSB, v, hB, hW⟩ := h
  obtain ⟨a, c, rfl, hnc, hnm⟩ := winC_slice hW
  have hc : w.cell? ⟨B, 0, none⟩ = some (.slice a th.length c) := by rw [cell_of_row w B 0 _ _ _ hB]; rfl
  have hf : w.frozen? ⟨B, 0, none⟩ = false := by simp [World.frozen?, hB]
  have hBl : B < w.heap.size := World.block_lt_of_cell? w _ hc
  have HB := Lib.hid hB; clear hB
  have hd1 : (s.do_ == 1) = true := by simp [hd]
  clear hd
  go_enter Tryz.func118, Tryz.ntmps118
  go_wp2
  refine named_box2 w _ _ _ _ fun W0 hb0 hz0 hx0 hx1 => ?_
  have d0 := cell_blk hx0 0
  have d1 := cell_blk hx0 1
  have d2 := cell_blk hx0 2
  have d3 := cell_blk hx0 3
  have e0 := below_cell hb0 hc
  have HW0 := Lib.hid hW
  have hW1 : WinC 3 58 w (.slice a th.length c) (fun i => (S i ∧ i ≠ B) ∧ i < w.heap.size) th.length (th.flatMap Held.cells) := winC_mono (winC_block hW) fun i hi => hi.2
  have HW := Lib.hid (winC_move hW1 (fr_of_below (S := fun _ => False) hb0) (fun _ _ h => h))
  have f0 : W0.frozen? ⟨B, 0, none⟩ = false := (hb0.frozen (p := ⟨B, 0, none⟩) hBl).trans hf
  have HX0 := Lib.hid hx0
  have HX1 := Lib.hid hx1
  clear hx0 hx1 hc hf hW hW1
  have hob := winC_ob HW.out
  have hB0 : B < W0.heap.size := by omega
  have n0 : ∀ i, some i = (Value.slice a th.length c).ownBlock → i ≠ B ∧ i ≠ w.heap.size ∧ S i := fun i hi => ⟨(hob i hi).1.1.2, by have := (hob i hi).1.2; omega, (hob i hi).1.1.1⟩
  have N0 := Lib.hid n0
  clear n0 hob
  have EN := Lib.hid (enters_of Tryz.func34 (by kernel_rfl) rfl)
  set_option maxRecDepth 10000 in
  go_region_law ((first | (refine step_call (by rfl) 34 _ _ (by rfl) (EN.out) _ (by rfl) (came_any s _) ?_; rintro _ w2 ⟨rfl, hb2⟩; refine ⟨_, rfl, ?_⟩; have g0 := below_cell hb2 e0; have g5 := fun o => below_cell ((Below.refl w2.heap.size w2).alloc (Nat.le_refl _) o) g0) | (have hb3 := ((Below.refl W0.heap.size W0).drew.trans hb2).alloc hb2.size (.cells #[.int .i64 s.key, .int .i64 s.val, .int .i64 s.at_] 58); refine step_append_win _ (by rfl) _ _ _ (by rfl) 58 3 24 _ Tryz.underlying105 info_held rfl (by decide) _ (fun i => (S i ∧ i ≠ B) ∧ i < w.heap.size) th.length (th.flatMap Held.cells) (by rfl) (winC_move HW.out (fr_of_below (S := fun _ => False) hb3) (fun _ _ h => h)) _ _ _ [.int .i64 s.key, .int .i64 s.val, .int .i64 s.at_] (by rfl) (by rfl) (World.news_of_block (heap_alloc_new w2 _)) (by simp [Value.oneCell']) (by decide) (by unfold maxLen; omega) (by omega) ?_; intro v1 w1 hwin hfr hsz; obtain ⟨a1, c1, rfl, hn1, hm1⟩ := winC_slice hwin; have k0 := fr_frozen hfr (Nat.lt_of_lt_of_le hB0 hb3.size) (below_frozen hb3 hB0 f0) (fun h => (N0.out _ h).1 rfl); have k1 := fr_cell hfr (below_cell hb3 e0) (fun h => (N0.out _ h).1 rfl))))
  all_goals
    obtain ⟨W3, hW3⟩ : ∃ W3, w1.setCell ⟨B, 0, none⟩ (.slice a1 (th.length + 1) c1) = W3 := ⟨_, rfl⟩
    have hF3 : Fr (fun i => i = B ∨ some i = (Value.slice a th.length c).ownBlock) W0 W3 := by
      rw [← hW3]
      exact fr_trans (fr_trans (fr_of_below hb3) hfr fun i hi h => .inr h) (fr_setCell _ _ _) fun i _ h => .inl h
    have hz2 : W0.heap.size ≤ w2.heap.size := hb2.size
    have hL3 : ListAt 107 W3 (fun i => S i ∧ i < w.heap.size ∨ i = w2.heap.size + 1) B (th ++ [heldOf s]) := by
      rw [← hW3]
      refine ⟨.inl ⟨hSB, hBl⟩, .slice a1 (th.length + 1) c1, ?_, ?_⟩
      · have hB1 : w1.heap[B]? = some (.cells #[.slice a th.length c] 107 (0, 0)) :=
          (hfr.block B (Nat.lt_of_lt_of_le hB0 hb3.size) (fun h => (N0.out _ h).1 rfl)).trans ((hb3.block B hB0).trans ((hb0.block B hBl).trans HB.out))
        simp [World.setCell, Array.getElem?_modify, hB1]
      · have hm := winC_move hwin (fr_setCell w1 ⟨B, 0, none⟩ (.slice a1 (th.length + 1) c1)) (fun i hi (e : i = B) => by rcases hi with hi | hi; exact hi.1.1.2 e; simp at hi; omega)
        have ha : (th ++ [heldOf s]).flatMap Held.cells = th.flatMap Held.cells ++ [.int .i64 s.key, .int .i64 s.val, .int .i64 s.at_] := by rw [List.flatMap_append]; rfl
        refine (?_ : WinC _ _ _ _ _ _ _)
        rw [ha, List.length_append]
        exact winC_mono hm fun i hi => by
          rcases hi with hi | hi
          · exact ⟨.inl ⟨hi.1.1.1, hi.1.2⟩, hi.1.1.2⟩
          · simp at hi
            exact ⟨.inr hi, by omega⟩
    have hr3 : W3.heap[w.heap.size + 1]? = some (.cells #[.int .i64 0, .int .i64 0, .int .i64 0] 58 (0, 0)) :=
      (hF3.block _ (by omega) (fun h => by rcases h with h | h; omega; exact absurd (winC_ob HW0.out _ h).2 (by omega))).trans HX1.out
    rw [hW3]
    clear hW3 k0 k1 hfr hwin hb3 g0 g5 hb2 d0 d1 d2 d3 e0 f0
    have FIN := Lib.hid (And.intro hF3 (And.intro hL3 hr3))
    clear hF3 hL3 hr3
    go_wp2_with fail
    refine (nothing_any _).mono ?_
    rintro e W4 ⟨rfl, hb4⟩
    have hr4 : W4.heap[w.heap.size + 1]? = some (.cells #[.int .i64 0, .int .i64 0, .int .i64 0] 58 (0, 0)) :=
      (hb4.block _ (Array.getElem?_eq_some_iff.1 FIN.out.2.2).1).trans FIN.out.2.2
    have g0 := cell_blk hr4 0
    have g1 := cell_blk hr4 1
    have g2 := cell_blk hr4 2
    have k0 := free_blk hr4 0
    have k1 := free_blk hr4 1
    have k2 := free_blk hr4 2
    have HR4 := Lib.hid hr4
    have HG := Lib.hid (And.intro g0 (And.intro g1 g2))
    clear hr4
    go_wp2
    refine bodyPost_ret (v := .agg #[.int .i64 0, .int .i64 0, .int .i64 (-1)]) (by simp [results, Tryz.results118, go_sem, World.cell?_setCell_same', HG.out.1, HG.out.2.1, HG.out.2.2]) rfl ⟨rfl, ?_⟩
    have hz3 := FIN.out.1.size
    refine do_end (r := w.heap.size + 1) (W3 := W3) ?_ FIN.out.2.1 (fun i hi => by rcases hi with hi | hi; exact .inl hi.1; exact .inr (by omega)) (by rintro (h | h) <;> omega) (by omega) (fr_trans (fr_of_below hb4) (stored3 _ _ _ _ _) fun i _ h => h)
    exact fr_trans (fr_of_below hb0) FIN.out.1 fun i hi h => by rcases h with h | h; exact h ▸ hSB; exact (N0.out i h).2.2

set_option maxHeartbeats 1000000 in
theorem queue_in (B : Nat) (S : Nat → Prop) (th : List Held) (s : Step) (w : World) (hd : s.do_ = 1) (h : ListAt 109 w S B th) (hth : th.length < 1000000) :
    Calls Tryz.prog 120 #[.pointer (some ⟨B, 0, none⟩), .agg #[.int .i64 s.at_, .int .i64 s.do_, .int .i64 s.key, .int .i64 s.val]] w fun e w' =>
      e = .returned (.agg #[.int .i64 0, .int .i64 0, .int .i64 (-1)]) ∧ ∃ S', ListAt 109 w' S' B (th ++ [heldOf s]) ∧ (∀ i, S' i → S i ∨ w.heap.size ≤ i) ∧ Fr S w w' := by
  obtain ⟨hSB, v, hB, hW⟩ := h
  obtain ⟨a, c, rfl, hnc, hnm⟩ := winC_slice hW
  have hc : w.cell? ⟨B, 0, none⟩ = some (.slice a th.length c) := by rw [cell_of_row w B 0 _ _ _ hB]; rfl
  have hf : w.frozen? ⟨B, 0, none⟩ = false := by simp [World.frozen?, hB]
  have hBl : B < w.heap.size := World.block_lt_of_cell? w _ hc
  have HB := Lib.hid hB; clear hB
  have hd1 : (s.do_ == 1) = true := by simp [hd]
  clear hd
  go_enter Tryz.func120, Tryz.ntmps120
  go_wp2
  refine named_box2 w _ _ _ _ fun W0 hb0 hz0 hx0 hx1 => ?_
  have d0 := cell_blk hx0 0
  have d1 := cell_blk hx0 1
  have d2 := cell_blk hx0 2
  have d3 := cell_blk hx0 3
  have e0 := below_cell hb0 hc
  have HW0 := Lib.hid hW
  have hW1 : WinC 3 58 w (.slice a th.length c) (fun i => (S i ∧ i ≠ B) ∧ i < w.heap.size) th.length (th.flatMap Held.cells) := winC_mono (winC_block hW) fun i hi => hi.2
  have HW := Lib.hid (winC_move hW1 (fr_of_below (S := fun _ => False) hb0) (fun _ _ h => h))
  have f0 : W0.frozen? ⟨B, 0, none⟩ = false := (hb0.frozen (p := ⟨B, 0, none⟩) hBl).trans hf
  have HX0 := Lib.hid hx0
  have HX1 := Lib.hid hx1
  clear hx0 hx1 hc hf hW hW1
  have hob := winC_ob HW.out
  have hB0 : B < W0.heap.size := by omega
  have n0 : ∀ i, some i = (Value.slice a th.length c).ownBlock → i ≠ B ∧ i ≠ w.heap.size ∧ S i := fun i hi => ⟨(hob i hi).1.1.2, by have := (hob i hi).1.2; omega, (hob i hi).1.1.1⟩
  have N0 := Lib.hid n0
  clear n0 hob
  have EN := Lib.hid (enters_of Tryz.func34 (by kernel_rfl) rfl)
  set_option maxRecDepth 10000 in
  go_region_law ((first | (refine step_call (by rfl) 34 _ _ (by rfl) (EN.out) _ (by rfl) (came_any s _) ?_; rintro _ w2 ⟨rfl, hb2⟩; refine ⟨_, rfl, ?_⟩; have g0 := below_cell hb2 e0; have g5 := fun o => below_cell ((Below.refl w2.heap.size w2).alloc (Nat.le_refl _) o) g0) | (have hb3 := ((Below.refl W0.heap.size W0).drew.trans hb2).alloc hb2.size (.cells #[.int .i64 s.key, .int .i64 s.val, .int .i64 s.at_] 58); refine step_append_win _ (by rfl) _ _ _ (by rfl) 58 3 24 _ Tryz.underlying105 info_held rfl (by decide) _ (fun i => (S i ∧ i ≠ B) ∧ i < w.heap.size) th.length (th.flatMap Held.cells) (by rfl) (winC_move HW.out (fr_of_below (S := fun _ => False) hb3) (fun _ _ h => h)) _ _ _ [.int .i64 s.key, .int .i64 s.val, .int .i64 s.at_] (by rfl) (by rfl) (World.news_of_block (heap_alloc_new w2 _)) (by simp [Value.oneCell']) (by decide) (by unfold maxLen; omega) (by omega) ?_; intro v1 w1 hwin hfr hsz; obtain ⟨a1, c1, rfl, hn1, hm1⟩ := winC_slice hwin; have k0 := fr_frozen hfr (Nat.lt_of_lt_of_le hB0 hb3.size) (below_frozen hb3 hB0 f0) (fun h => (N0.out _ h).1 rfl); have k1 := fr_cell hfr (below_cell hb3 e0) (fun h => (N0.out _ h).1 rfl))))
  all_goals
    obtain ⟨W3, hW3⟩ : ∃ W3, w1.setCell ⟨B, 0, none⟩ (.slice a1 (th.length + 1) c1) = W3 := ⟨_, rfl⟩
    have hF3 : Fr (fun i => i = B ∨ some i = (Value.slice a th.length c).ownBlock) W0 W3 := by
      rw [← hW3]
      exact fr_trans (fr_trans (fr_of_below hb3) hfr fun i hi h => .inr h) (fr_setCell _ _ _) fun i _ h => .inl h
    have hz2 : W0.heap.size ≤ w2.heap.size := hb2.size
    have hL3 : ListAt 109 W3 (fun i => S i ∧ i < w.heap.size ∨ i = w2.heap.size + 1) B (th ++ [heldOf s]) := by
      rw [← hW3]
      refine ⟨.inl ⟨hSB, hBl⟩, .slice a1 (th.length + 1) c1, ?_, ?_⟩
      · have hB1 : w1.heap[B]? = some (.cells #[.slice a th.length c] 109 (0, 0)) :=
          (hfr.block B (Nat.lt_of_lt_of_le hB0 hb3.size) (fun h => (N0.out _ h).1 rfl)).trans ((hb3.block B hB0).trans ((hb0.block B hBl).trans HB.out))
        simp [World.setCell, Array.getElem?_modify, hB1]
      · have hm := winC_move hwin (fr_setCell w1 ⟨B, 0, none⟩ (.slice a1 (th.length + 1) c1)) (fun i hi (e : i = B) => by rcases hi with hi | hi; exact hi.1.1.2 e; simp at hi; omega)
        have ha : (th ++ [heldOf s]).flatMap Held.cells = th.flatMap Held.cells ++ [.int .i64 s.key, .int .i64 s.val, .int .i64 s.at_] := by rw [List.flatMap_append]; rfl
        refine (?_ : WinC _ _ _ _ _ _ _)
        rw [ha, List.length_append]
        exact winC_mono hm fun i hi => by
          rcases hi with hi | hi
          · exact ⟨.inl ⟨hi.1.1.1, hi.1.2⟩, hi.1.1.2⟩
          · simp at hi
            exact ⟨.inr hi, by omega⟩
    have hr3 : W3.heap[w.heap.size + 1]? = some (.cells #[.int .i64 0, .int .i64 0, .int .i64 0] 58 (0, 0)) :=
      (hF3.block _ (by omega) (fun h => by rcases h with h | h; omega; exact absurd (winC_ob HW0.out _ h).2 (by omega))).trans HX1.out
    rw [hW3]
    clear hW3 k0 k1 hfr hwin hb3 g0 g5 hb2 d0 d1 d2 d3 e0 f0
    have FIN := Lib.hid (And.intro hF3 (And.intro hL3 hr3))
    clear hF3 hL3 hr3
    go_wp2_with fail
    refine (nothing_any _).mono ?_
    rintro e W4 ⟨rfl, hb4⟩
    have hr4 : W4.heap[w.heap.size + 1]? = some (.cells #[.int .i64 0, .int .i64 0, .int .i64 0] 58 (0, 0)) :=
      (hb4.block _ (Array.getElem?_eq_some_iff.1 FIN.out.2.2).1).trans FIN.out.2.2
    have g0 := cell_blk hr4 0
    have g1 := cell_blk hr4 1
    have g2 := cell_blk hr4 2
    have k0 := free_blk hr4 0
    have k1 := free_blk hr4 1
    have k2 := free_blk hr4 2
    have HR4 := Lib.hid hr4
    have HG := Lib.hid (And.intro g0 (And.intro g1 g2))
    clear hr4
    go_wp2
    refine bodyPost_ret (v := .agg #[.int .i64 0, .int .i64 0, .int .i64 (-1)]) (by simp [results, Tryz.results120, go_sem, World.cell?_setCell_same', HG.out.1, HG.out.2.1, HG.out.2.2]) rfl ⟨rfl, ?_⟩
    have hz3 := FIN.out.1.size
    refine do_end (r := w.heap.size + 1) (W3 := W3) ?_ FIN.out.2.1 (fun i hi => by rcases hi with hi | hi; exact .inl hi.1; exact .inr (by omega)) (by rintro (h | h) <;> omega) (by omega) (fr_trans (fr_of_below hb4) (stored3 _ _ _ _ _) fun i _ h => h)
    exact fr_trans (fr_of_below hb0) FIN.out.1 fun i hi h => by rcases h with h | h; exact h ▸ hSB; exact (N0.out i h).2.2

set_option maxHeartbeats 1000000 in
theorem stack_none (B : Nat) (S : Nat → Prop) (s : Step) (w : World) (hd : ¬ s.do_ = 1) (h : ListAt 107 w S B []) (hS : ∀ i, S i → i < w.heap.size) :
    Calls Tryz.prog 118 #[.pointer (some ⟨B, 0, none⟩), .agg #[.int .i64 s.at_, .int .i64 s.do_, .int .i64 s.key, .int .i64 s.val]] w fun e w' =>
      e = .returned (.agg #[.int .i64 0, .int .i64 0, .int .i64 (-1)]) ∧ ∃ S', ListAt 107 w' S' B [] ∧ (∀ i, S' i → S i ∨ w.heap.size ≤ i) ∧ Fr S w w' := by
  have HL := Lib.hid h
  obtain ⟨hSB, v, hB, hW⟩ := h
  obtain ⟨a, c, rfl, hnc, hnm⟩ := winC_slice hW
  have hc : w.cell? ⟨B, 0, none⟩ = some (.slice a 0 c) := by rw [cell_of_row w B 0 _ _ _ hB]; rfl
  have hBl : B < w.heap.size := World.block_lt_of_cell? w _ hc
  clear hB hW hnc hnm
  have hd1 : (s.do_ == 1) = false := by simp [hd]
  clear hd
  go_enter Tryz.func118, Tryz.ntmps118
  go_wp2_with fail
  refine (nothing_any _).mono ?_
  rintro e W4 ⟨rfl, hb4⟩
  have hq : ∀ o1 o2 : Obj, Below w.heap.size w ((w.alloc o1).alloc o2) := fun o1 o2 => ((Below.refl _ _).alloc (Nat.le_refl _) _).alloc (by simp) _
  have hr4 : W4.heap[w.heap.size + 1]? = some (.cells #[.int .i64 0, .int .i64 0, .int .i64 0] 58 (0, 0)) := by
    refine (hb4.block _ (by simp)).trans ?_
    have := heap_alloc_new (w.alloc (.cells #[.int .i64 s.at_, .int .i64 s.do_, .int .i64 s.key, .int .i64 s.val] 46)) (.cells #[.int .i64 0, .int .i64 0, .int .i64 0] 58)
    rwa [World.size_alloc] at this
  have hw4 : Below w.heap.size w W4 := (hq _ _).trans (hb4.mono (by simp; omega))
  have g0 := cell_blk hr4 0
  have g1 := cell_blk hr4 1
  have g2 := cell_blk hr4 2
  have k0 := free_blk hr4 0
  have k1 := free_blk hr4 1
  have k2 := free_blk hr4 2
  have HG := Lib.hid (And.intro g0 (And.intro g1 g2))
  clear hr4 hq
  go_wp2
  refine bodyPost_ret (v := .agg #[.int .i64 0, .int .i64 0, .int .i64 (-1)]) (by simp [results, Tryz.results118, go_sem, World.cell?_setCell_same', HG.out.1, HG.out.2.1, HG.out.2.2]) rfl ⟨rfl, ?_⟩
  exact do_end (r := w.heap.size + 1) (W3 := W4) (fr_of_below hw4) (listAt_move HL.out (fr_of_below (S := fun _ => False) hw4) fun _ _ h => h) (fun i hi => .inl hi) (fun hi => by have := hS _ hi; omega) (by omega) (stored3 _ _ _ _ _)

set_option maxHeartbeats 1000000 in
theorem queue_none (B : Nat) (S : Nat → Prop) (s : Step) (w : World) (hd : ¬ s.do_ = 1) (h : ListAt 109 w S B []) (hS : ∀ i, S i → i < w.heap.size) :
    Calls Tryz.prog 120 #[.pointer (some ⟨B, 0, none⟩), .agg #[.int .i64 s.at_, .int .i64 s.do_, .int .i64 s.key, .int .i64 s.val]] w fun e w' =>
      e = .returned (.agg #[.int .i64 0, .int .i64 0, .int .i64 (-1)]) ∧ ∃ S', ListAt 109 w' S' B [] ∧ (∀ i, S' i → S i ∨ w.heap.size ≤ i) ∧ Fr S w w' := by
  have HL := Lib.hid h
  obtain ⟨hSB, v, hB, hW⟩ := h
  obtain ⟨a, c, rfl, hnc, hnm⟩ := winC_slice hW
  have hc : w.cell? ⟨B, 0, none⟩ = some (.slice a 0 c) := by rw [cell_of_row w B 0 _ _ _ hB]; rfl
  have hBl : B < w.heap.size := World.block_lt_of_cell? w _ hc
  clear hB hW hnc hnm
  have hd1 : (s.do_ == 1) = false := by simp [hd]
  clear hd
  go_enter Tryz.func120, Tryz.ntmps120
  go_wp2_with fail
  refine (nothing_any _).mono ?_
  rintro e W4 ⟨rfl, hb4⟩
  have hq : ∀ o1 o2 : Obj, Below w.heap.size w ((w.alloc o1).alloc o2) := fun o1 o2 => ((Below.refl _ _).alloc (Nat.le_refl _) _).alloc (by simp) _
  have hr4 : W4.heap[w.heap.size + 1]? = some (.cells #[.int .i64 0, .int .i64 0, .int .i64 0] 58 (0, 0)) := by
    refine (hb4.block _ (by simp)).trans ?_
    have := heap_alloc_new (w.alloc (.cells #[.int .i64 s.at_, .int .i64 s.do_, .int .i64 s.key, .int .i64 s.val] 46)) (.cells #[.int .i64 0, .int .i64 0, .int .i64 0] 58)
    rwa [World.size_alloc] at this
  have hw4 : Below w.heap.size w W4 := (hq _ _).trans (hb4.mono (by simp; omega))
  have g0 := cell_blk hr4 0
  have g1 := cell_blk hr4 1
  have g2 := cell_blk hr4 2
  have k0 := free_blk hr4 0
  have k1 := free_blk hr4 1
  have k2 := free_blk hr4 2
  have HG := Lib.hid (And.intro g0 (And.intro g1 g2))
  clear hr4 hq
  go_wp2
  refine bodyPost_ret (v := .agg #[.int .i64 0, .int .i64 0, .int .i64 (-1)]) (by simp [results, Tryz.results120, go_sem, World.cell?_setCell_same', HG.out.1, HG.out.2.1, HG.out.2.2]) rfl ⟨rfl, ?_⟩
  exact do_end (r := w.heap.size + 1) (W3 := W4) (fr_of_below hw4) (listAt_move HL.out (fr_of_below (S := fun _ => False) hw4) fun _ _ h => h) (fun i hi => .inl hi) (fun hi => by have := hS _ hi; omega) (by omega) (stored3 _ _ _ _ _)

end Go.Proofs.YtkoeplbkeboklaaGreat
/- retro: what is taken from a stack and from a queue. -/
set_option linter.unusedVariables false
set_option linter.unusedSimpArgs false
namespace Go.Proofs.YtkoeplbkeboklaaGreat
open Go.RowKit
theorem pop_facts {T : Nat} {w : World} {S : Nat → Prop} {B : Nat} {v0 : Value} {th : List Held} (v : Value) (o1 o2 o3 : Obj) (hB : w.heap[B]? = some (.cells #[v0] T (0, 0))) (hSB : S B) (hW : Win Held.cells 3 58 w v (fun i => S i ∧ i ≠ B) th) :
    ((((w.setCell ⟨B, 0, none⟩ v).alloc o1).alloc o2).alloc o3).heap[w.heap.size + 1]? = some o2 ∧ ListAt T ((((w.setCell ⟨B, 0, none⟩ v).alloc o1).alloc o2).alloc o3) S B th ∧ Fr S w ((((w.setCell ⟨B, 0, none⟩ v).alloc o1).alloc o2).alloc o3) := by
  have h3 := three_mid (w.setCell ⟨B, 0, none⟩ v) o1 o2 o3
  rw [size_setCell'] at h3
  have hb := three_below (w.setCell ⟨B, 0, none⟩ v) o1 o2 o3
  refine ⟨h3, listAt_move (listAt_store hB hSB hW) (fr_of_below (S := fun _ => False) hb) fun _ _ h => h, ?_⟩
  exact fr_trans (fr_mono (fr_setCell w ⟨B, 0, none⟩ v) fun i e => (show i = B from e) ▸ hSB) (fr_of_below (S := fun _ => False) hb) fun _ _ h => h.elim

set_option maxHeartbeats 1000000 in
theorem stack_pop (B : Nat) (S : Nat → Prop) (th : List Held) (m : Nat) (hd0 : Held) (s : Step) (w : World) (hd : ¬ s.do_ = 1) (h : ListAt 107 w S B th) (hS : ∀ i, S i → i < w.heap.size) (hl : th.length = m + 1) (hm : m < 1000000) (hh : th[m]? = some hd0) :
    Calls Tryz.prog 118 #[.pointer (some ⟨B, 0, none⟩), .agg #[.int .i64 s.at_, .int .i64 s.do_, .int .i64 s.key, .int .i64 s.val]] w fun e w' =>
      e = .returned (.agg #[.int .i64 hd0.key, .int .i64 hd0.val, .int .i64 hd0.from_]) ∧ ∃ S', ListAt 107 w' S' B (th.take m) ∧ (∀ i, S' i → S i ∨ w.heap.size ≤ i) ∧ Fr S w w' := by
  obtain ⟨hSB, v, hB, hW⟩ := h
  obtain ⟨_, a, c, rfl, hrd⟩ := win_rd held_len hW
  obtain ⟨b, off, rfl, hbl, hrd⟩ := hrd (by omega)
  have hnc : m + 1 ≤ c := by obtain ⟨a', c', he, h1, h2⟩ := winC_slice hW; injection he with _ _ he; omega
  have hrow := hrd m hd0 hh
  have q0 : w.cell? ⟨b, off + m * 3, none⟩ = some (.int .i64 hd0.key) := hrow 0 _ rfl
  have q1 := hrow 1 _ rfl
  have q2 := hrow 2 _ rfl
  have hob := winC_ob hW
  have hbB : b ≠ B := (hob b rfl).1.2
  have hP := win_pop held_len hW rfl m (by omega) (by omega)
  rw [hl] at hB
  have hc : w.cell? ⟨B, 0, none⟩ = some (.slice (some ⟨b, off, none⟩) (m + 1) c) := by rw [cell_of_row w B 0 _ _ _ hB]; rfl
  have hf : w.frozen? ⟨B, 0, none⟩ = false := free_blk hB 0
  have hBl : B < w.heap.size := World.block_lt_of_cell? w _ hc
  have hd1 : (s.do_ == 1) = false := by simp [hd]
  have hBl1 : B < w.heap.size + 1 := by omega
  have hBl2 : B < w.heap.size + 1 + 1 := by omega
  have HH := Lib.hid (And.intro hB hP)
  clear hd hrow hrd hh hob hP hB hW
  have HL := Lib.hid hl; clear hl
  go_enter Tryz.func118, Tryz.ntmps118
  go_wp2
  obtain ⟨W3, hW3⟩ : ∃ W3, w.setCell ⟨B, 0, none⟩ (.slice (some ⟨b, off, none⟩) m c) = W3 := ⟨_, rfl⟩
  have hz : W3.heap.size = w.heap.size := by rw [← hW3]; exact size_setCell' _ _ _
  have hL := listAt_store HH.out.1 hSB HH.out.2
  have hF : Fr (fun i => i = B) w W3 := by rw [← hW3]; exact fr_setCell w ⟨B, 0, none⟩ _
  rw [hW3] at hL ⊢
  have h3 := three_mid W3 (.cells #[.int .i64 s.at_, .int .i64 s.do_, .int .i64 s.key, .int .i64 s.val] 46) (.cells #[.int .i64 hd0.key, .int .i64 hd0.val, .int .i64 hd0.from_] 58) (.cells #[.int .i64 hd0.key, .int .i64 hd0.val, .int .i64 hd0.from_] 58)
  rw [hz] at h3
  have g0 := cell_blk h3 0
  have g1 := cell_blk h3 1
  have g2 := cell_blk h3 2
  have hb := three_below W3 (.cells #[.int .i64 s.at_, .int .i64 s.do_, .int .i64 s.key, .int .i64 s.val] 46) (.cells #[.int .i64 hd0.key, .int .i64 hd0.val, .int .i64 hd0.from_] 58) (.cells #[.int .i64 hd0.key, .int .i64 hd0.val, .int .i64 hd0.from_] 58)
  generalize ((W3.alloc (.cells #[.int .i64 s.at_, .int .i64 s.do_, .int .i64 s.key, .int .i64 s.val] 46)).alloc (.cells #[.int .i64 hd0.key, .int .i64 hd0.val, .int .i64 hd0.from_] 58)).alloc (.cells #[.int .i64 hd0.key, .int .i64 hd0.val, .int .i64 hd0.from_] 58) = W5 at *
  refine bodyPost_ret (v := .agg #[.int .i64 hd0.key, .int .i64 hd0.val, .int .i64 hd0.from_]) (by simp [results, Tryz.results118, go_sem, g0, g1, g2]) rfl ⟨rfl, S, ?_, fun i hi => .inl hi, ?_⟩
  · exact listAt_move hL (fr_of_below (S := fun _ => False) hb) fun _ _ h => h
  · exact fr_trans (fr_mono hF fun i e => e ▸ hSB) (fr_of_below (S := fun _ => False) hb) fun _ _ h => h.elim
set_option maxHeartbeats 1000000 in
theorem queue_pop (B : Nat) (S : Nat → Prop) (th : List Held) (hd0 : Held) (s : Step) (w : World) (hd : ¬ s.do_ = 1) (h : ListAt 109 w S B (hd0 :: th)) (hS : ∀ i, S i → i < w.heap.size) (hm : th.length < 1000000) :
    Calls Tryz.prog 120 #[.pointer (some ⟨B, 0, none⟩), .agg #[.int .i64 s.at_, .int .i64 s.do_, .int .i64 s.key, .int .i64 s.val]] w fun e w' =>
      e = .returned (.agg #[.int .i64 hd0.key, .int .i64 hd0.val, .int .i64 hd0.from_]) ∧ ∃ S', ListAt 109 w' S' B th ∧ (∀ i, S' i → S i ∨ w.heap.size ≤ i) ∧ Fr S w w' := by
  obtain ⟨hSB, v, hB, hW⟩ := h
  obtain ⟨_, a, c, rfl, hrd⟩ := win_rd held_len hW
  obtain ⟨b, off, rfl, hbl, hrd⟩ := hrd (by simp)
  have hnc : th.length + 1 ≤ c := by obtain ⟨a', c', he, h1, h2⟩ := winC_slice hW; injection he with _ _ he; simp at h1; omega
  have hrow := hrd 0 hd0 rfl
  have q0 : w.cell? ⟨b, off, none⟩ = some (.int .i64 hd0.key) := by simpa using hrow 0 _ rfl
  have q1 : w.cell? ⟨b, off + 1, none⟩ = some (.int .i64 hd0.val) := by simpa using hrow 1 _ rfl
  have q2 : w.cell? ⟨b, off + 2, none⟩ = some (.int .i64 hd0.from_) := by simpa using hrow 2 _ rfl
  have hob := winC_ob hW
  have hbB : b ≠ B := (hob b rfl).1.2
  have hP := win_tail held_len hW
  simp only [List.length_cons] at hB
  have hc : w.cell? ⟨B, 0, none⟩ = some (.slice (some ⟨b, off, none⟩) (th.length + 1) c) := by rw [cell_of_row w B 0 _ _ _ hB]; rfl
  have hf : w.frozen? ⟨B, 0, none⟩ = false := free_blk hB 0
  have hBl : B < w.heap.size := World.block_lt_of_cell? w _ hc
  have hd1 : (s.do_ == 1) = false := by simp [hd]
  have hBl1 : B < w.heap.size + 1 := by omega
  have hBl2 : B < w.heap.size + 1 + 1 := by omega
  have HH := Lib.hid (And.intro hB hP)
  clear hd hrow hrd hob hP hB hW
  go_enter Tryz.func120, Tryz.ntmps120
  go_wp2
  all_goals
    first
    | (obtain ⟨h3, hL, hF⟩ := pop_facts (.slice (some ⟨b, off + 3, none⟩) th.length (c - 1)) (.cells #[.int .i64 s.at_, .int .i64 s.do_, .int .i64 s.key, .int .i64 s.val] 46) (.cells #[.int .i64 hd0.key, .int .i64 hd0.val, .int .i64 hd0.from_] 58) (.cells #[.int .i64 hd0.key, .int .i64 hd0.val, .int .i64 hd0.from_] 58) HH.out.1 hSB HH.out.2.1
       exact bodyPost_ret (v := .agg #[.int .i64 hd0.key, .int .i64 hd0.val, .int .i64 hd0.from_]) (by simp [results, Tryz.results120, go_sem, cell_blk h3 0, cell_blk h3 1, cell_blk h3 2]) rfl ⟨rfl, S, hL, fun i hi => .inl hi, hF⟩)
    | (have hW0 : Win Held.cells 3 58 w (.slice (some ⟨b, off, none⟩) th.length 0) (fun i => S i ∧ i ≠ B) th := (show c - 1 = 0 by omega) ▸ HH.out.2.2 (by omega)
       obtain ⟨h3, hL, hF⟩ := pop_facts (.slice (some ⟨b, off, none⟩) th.length 0) (.cells #[.int .i64 s.at_, .int .i64 s.do_, .int .i64 s.key, .int .i64 s.val] 46) (.cells #[.int .i64 hd0.key, .int .i64 hd0.val, .int .i64 hd0.from_] 58) (.cells #[.int .i64 hd0.key, .int .i64 hd0.val, .int .i64 hd0.from_] 58) HH.out.1 hSB hW0
       exact bodyPost_ret (v := .agg #[.int .i64 hd0.key, .int .i64 hd0.val, .int .i64 hd0.from_]) (by simp [results, Tryz.results120, go_sem, cell_blk h3 0, cell_blk h3 1, cell_blk h3 2]) rfl ⟨rfl, S, hL, fun i hi => .inl hi, hF⟩)
end Go.Proofs.YtkoeplbkeboklaaGreat
/- Maps with whole numbers for keys and whatever values: what a look-up, a store, a delete and a range do. -/
set_option linter.unusedVariables false
set_option linter.unusedSimpArgs false
namespace Go.Proofs.YtkoeplbkeboklaaGreat
open Go.RowKit Go.MapKept
def pairOf (e : MapEntry) : Value × Value := (e.key, e.val)
def kvV (p : Int × Value) : Value × Value := (.int .i64 p.1, p.2)
/-- Block r is a map that holds kv (in whatever order). -/
def MapOf (w : World) (r : Nat) (kv : List (Int × Value)) : Prop :=
  ∃ es clock, w.heap[r]? = some (.map es clock) ∧ Stamped es clock ∧ (es.toList.map pairOf).Perm (kv.map kvV)
def kvGet (kv : List (Int × Value)) (x : Int) : Option Value := (kv.find? fun p => p.1 == x).map (·.2)
theorem mapOf_keys {es : Array MapEntry} {kv : List (Int × Value)} (h : (es.toList.map pairOf).Perm (kv.map kvV)) : ∀ x ∈ es.toList, IsKey (.int .i64) x.key := by
  intro x hx
  obtain ⟨p, hp, e⟩ := List.mem_map.1 (h.mem_iff.1 (List.mem_map_of_mem (f := pairOf) hx))
  have : x.key = .int .i64 p.1 := (congrArg Prod.fst e).symm
  rw [this]; exact rfl
theorem mapOf_nodup {es : Array MapEntry} {clock : Nat} {kv : List (Int × Value)} (hs : Stamped es clock) (h : (es.toList.map pairOf).Perm (kv.map kvV)) : (kv.map Prod.fst).Nodup := by
  have h1 : (es.toList.map (·.key)).Perm (kv.map fun p => Value.int .i64 p.1) := by
    have := h.map Prod.fst
    simpa [List.map_map, Function.comp_def, pairOf, kvV] using this
  have h2 := h1.nodup_iff.1 hs.2.2
  have : (kv.map fun p => Value.int .i64 p.1) = (kv.map Prod.fst).map (Value.int .i64) := by simp [List.map_map, Function.comp_def]
  rw [this] at h2
  exact (List.nodup_iff_pairwise_ne.2 ((List.pairwise_map.1 (List.nodup_iff_pairwise_ne.1 h2)).imp fun h e => h (by rw [e])))
theorem kvGet_of_mem {kv : List (Int × Value)} (hn : (kv.map Prod.fst).Nodup) {x : Int} {v : Value} (h : (x, v) ∈ kv) : kvGet kv x = some v := by
  induction kv with
  | nil => simp at h
  | cons p l ih =>
    rw [List.map_cons, List.nodup_cons] at hn
    rcases List.mem_cons.1 h with rfl | h
    · simp [kvGet]
    · have hne : (p.1 == x) = false := by
        rw [beq_eq_false_iff_ne]
        intro e
        exact hn.1 (List.mem_map.2 ⟨_, h, e.symm⟩)
      have := ih hn.2 h
      simp only [kvGet, List.find?_cons, hne] at this ⊢
      exact this
theorem kvGet_none {kv : List (Int × Value)} {x : Int} (h : ∀ p ∈ kv, p.1 ≠ x) : kvGet kv x = none := by
  simp only [kvGet, Option.map_eq_none_iff, List.find?_eq_none]
  intro p hp
  simp [h p hp]
/-- What the model's search finds. -/
theorem find_map {es : Array MapEntry} {clock : Nat} {kv : List (Int × Value)} (hs : Stamped es clock) (h : (es.toList.map pairOf).Perm (kv.map kvV)) (x : Int) :
    (Instr.findNow (.int .i64) (.int .i64 x) es.toList 0 = some none ∧ kvGet kv x = none ∧ ∀ e ∈ es.toList, e.key ≠ .int .i64 x) ∨
    ∃ j e, Instr.findNow (.int .i64) (.int .i64 x) es.toList 0 = some (some (j, e.val)) ∧ es.toList[j]? = some e ∧ e.key = .int .i64 x ∧ kvGet kv x = some e.val := by
  rcases findNow_spec (d := .int .i64) (k := .int .i64 x) rfl es.toList 0 (mapOf_keys h) with ⟨h1, h2⟩ | ⟨j, e, h1, h2, h3⟩
  · refine .inl ⟨h1, kvGet_none fun p hp e => ?_, h2⟩
    obtain ⟨y, hy, ey⟩ := List.mem_map.1 (h.mem_iff.2 (List.mem_map_of_mem (f := kvV) hp))
    exact h2 y hy ((congrArg Prod.fst ey).trans (by simp [kvV, e]))
  · refine .inr ⟨j, e, by simpa using h1, h2, h3, ?_⟩
    obtain ⟨p, hp, ep⟩ := List.mem_map.1 (h.mem_iff.1 (List.mem_map_of_mem (f := pairOf) (List.mem_of_getElem? h2)))
    have e1 : Value.int .i64 p.1 = e.key := congrArg Prod.fst ep
    have e2 : p.2 = e.val := congrArg Prod.snd ep
    rw [h3] at e1
    injection e1 with _ e1
    rw [← e2]
    exact kvGet_of_mem (mapOf_nodup hs h) (by rw [← e1]; exact hp)
section
variable {P : Program} {w : World} {T K E r : Nat} {kv : List (Int × Value)}
theorem run_lookup_of (hT : P.underlying T = some (.map K E)) (hK : P.underlying K = some (.int .i64)) {z : Value} (hz : (zeroValue E).run P w = .ok z w) (h : MapOf w r kv) (x : Int) (ok : Bool) :
    (Instr.lookup T (.map (some r)) (.int .i64 x) ok).run P w = .ok (if ok then .tuple #[(kvGet kv x).getD z, .bool (kvGet kv x).isSome] else (kvGet kv x).getD z) w := by
  obtain ⟨es, clock, hb, hs, hp⟩ := h
  have hk : IsKey (.int .i64) (.int .i64 x) := rfl
  rcases find_map hs hp x with ⟨h1, h2, _⟩ | ⟨j, e, h1, _, _, h2⟩
  · simp [Instr.lookup, run_underlying hT, MapKept.run_getObj_map hb, MapKept.run_checkKey hK hk, MapKept.run_findKey hK h1, hz, h2, Result.andThen]
  · simp [Instr.lookup, run_underlying hT, MapKept.run_getObj_map hb, MapKept.run_checkKey hK hk, MapKept.run_findKey hK h1, h2, Result.andThen]
theorem perm_put {l : List MapEntry} {j : Nat} {e : MapEntry} (hj : l[j]? = some e) : ∃ l1 l2, l = l1 ++ e :: l2 ∧ l1.length = j := by
  obtain ⟨hlt, rfl⟩ := List.getElem?_eq_some_iff.1 hj
  exact ⟨l.take j, l.drop (j + 1), by rw [List.getElem_cons_drop, List.take_append_drop], by simp; omega⟩
theorem modify_mid {α : Type} (f : α → α) : ∀ (l1 : List α) (e : α) (l2 : List α), (l1 ++ e :: l2).modify l1.length f = l1 ++ f e :: l2
  | [], e, l2 => by simp
  | x :: l1, e, l2 => by
    have := modify_mid f l1 e l2
    simp only [List.cons_append, List.length_cons, List.modify_succ_cons, this]
theorem fr_heapSet (w : World) (r : Nat) (o : Obj) : Fr (fun i => i = r) w { w with heap := w.heap.setIfInBounds r o } :=
  ⟨rfl, rfl, rfl, by simp, fun k _ hs => by simp [Ne.symm hs]⟩
theorem filter_kv {kv : List (Int × Value)} {l1 l2 : List MapEntry} {e : MapEntry} {x : Int} (hp : ((l1 ++ e :: l2).map pairOf).Perm (kv.map kvV)) (hn : ((l1 ++ e :: l2).map (·.key)).Nodup) (he : e.key = .int .i64 x) :
    ((l1 ++ l2).map pairOf).Perm ((kv.filter fun p => p.1 != x).map kvV) := by
  have hf := hp.filter (fun q : Value × Value => match q.1 with | .int .i64 y => y != x | _ => true)
  have e1 : ((l1 ++ e :: l2).map pairOf).filter (fun q : Value × Value => match q.1 with | .int .i64 y => y != x | _ => true) = (l1 ++ l2).map pairOf := by
    rw [List.map_append, List.map_append, List.map_cons, List.filter_append, List.filter_cons]
    have hne : ∀ y ∈ l1 ++ l2, y.key ≠ .int .i64 x := by
      intro y hy eq
      rw [List.map_append, List.map_cons, List.nodup_append] at hn
      obtain ⟨_, h2, h3⟩ := hn
      rw [List.nodup_cons] at h2
      rcases List.mem_append.1 hy with hy | hy
      · exact h3 _ (List.mem_map_of_mem hy) _ (List.mem_cons_self) (eq.trans he.symm)
      · exact h2.1 (List.mem_map.2 ⟨y, hy, eq.trans he.symm⟩)
    have hk : ∀ (l : List MapEntry), (∀ y ∈ l, y ∈ l1 ++ l2) → (l.map pairOf).filter (fun q : Value × Value => match q.1 with | .int .i64 y => y != x | _ => true) = l.map pairOf := by
      intro l hl
      refine List.filter_eq_self.2 fun q hq => ?_
      obtain ⟨y, hy, rfl⟩ := List.mem_map.1 hq
      have := hne y (hl y hy)
      simp only [pairOf]
      split
      · rename_i z hz
        rw [bne_iff_ne]
        intro e2
        exact this (by rw [hz, e2])
      · rfl
    rw [hk l1 fun y hy => List.mem_append.2 (.inl hy), hk l2 fun y hy => List.mem_append.2 (.inr hy)]
    simp [pairOf, he]
  have e2 : (kv.map kvV).filter (fun q : Value × Value => match q.1 with | .int .i64 y => y != x | _ => true) = (kv.filter fun p => p.1 != x).map kvV := by
    rw [List.filter_map]
    congr 1
  rw [e1, e2] at hf
  exact hf
theorem run_update_of (hT : P.underlying T = some (.map K E)) (hK : P.underlying K = some (.int .i64)) (h : MapOf w r kv) (x : Int) (v : Value) :
    ∃ w', (Instr.mapUpdate T (.map (some r)) (.int .i64 x) v).run P w = .ok () w' ∧ MapOf w' r ((x, v) :: kv.filter fun p => p.1 != x) ∧ Fr (fun i => i = r) w w' ∧ w'.heap.size = w.heap.size := by
  obtain ⟨es, clock, hb, hs, hp⟩ := h
  have hk : IsKey (.int .i64) (.int .i64 x) := rfl
  rcases find_map hs hp x with ⟨h1, h2, h3⟩ | ⟨j, e, h1, hj, he, h2⟩
  · refine ⟨{ w with heap := w.heap.setIfInBounds r (.map (es.push { key := .int .i64 x, val := v, born := clock }) (clock + 1)) }, ?_, ⟨_, _, (heap_set hb).1, stamped_push hs h3, ?_⟩, fr_heapSet _ _ _, by simp⟩
    · simp [Instr.mapUpdate, run_underlying hT, MapKept.run_getObj_map hb, MapKept.run_checkKey hK hk, MapKept.run_findKey hK h1, MapKept.run_setObj_map _ hb, Result.andThen]
    · have hf : (kv.filter fun p => p.1 != x) = kv := by
        refine List.filter_eq_self.2 fun p hp' => ?_
        rw [bne_iff_ne]
        intro e
        have := kvGet_of_mem (mapOf_nodup hs hp) (x := p.1) (v := p.2) hp'
        rw [e, h2] at this
        cases this
      rw [hf, Array.toList_push, List.map_append, List.map_cons]
      exact (List.perm_append_comm).trans (hp.cons _)
  · have hj' : es[j]? = some e := by simpa using hj
    refine ⟨{ w with heap := w.heap.setIfInBounds r (.map (es.modify j fun e => { e with key := .int .i64 x, val := v }) clock) }, ?_, ⟨_, _, (heap_set hb).1, stamped_modify hs _ _ (fun _ _ => rfl) (fun e' _ he' => by rw [hj'] at he'; cases he'; exact he.symm), ?_⟩, fr_heapSet _ _ _, by simp⟩
    · simp [Instr.mapUpdate, run_underlying hT, MapKept.run_getObj_map hb, MapKept.run_checkKey hK hk, MapKept.run_findKey hK h1, hj', he, MapKept.run_keyThatStays hk, MapKept.run_setObj_map _ hb, Result.andThen]
    · obtain ⟨l1, l2, hl, hlen⟩ := perm_put hj
      have hm : (es.modify j fun e => { e with key := .int .i64 x, val := v }).toList = l1 ++ ({ e with key := .int .i64 x, val := v } : MapEntry) :: l2 := by
        rw [Array.toList_modify, hl, ← hlen]
        exact modify_mid _ _ _ _
      rw [hm, List.map_append, List.map_cons]
      rw [hl] at hp
      have hn : ((l1 ++ e :: l2).map (·.key)).Nodup := by rw [← hl]; exact hs.2.2
      have := filter_kv hp hn he
      rw [List.map_append] at this
      exact (List.perm_middle).trans (this.cons _)
theorem run_delete_of {ty : TypeId} (hT : P.underlying T = some (.map K E)) (hK : P.underlying K = some (.int .i64)) (h : MapOf w r kv) (x : Int) :
    ∃ w', (Builtin.delete_ #[T, K] ty #[.map (some r), .int .i64 x]).run P w = .ok (.tuple #[]) w' ∧ MapOf w' r (kv.filter fun p => p.1 != x) ∧ Fr (fun i => i = r) w w' ∧ w'.heap.size = w.heap.size := by
  obtain ⟨es, clock, hb, hs, hp⟩ := h
  have hk : IsKey (.int .i64) (.int .i64 x) := rfl
  rcases find_map hs hp x with ⟨h1, h2, h3⟩ | ⟨j, e, h1, hj, he, h2⟩
  · refine ⟨{ w with heap := w.heap.setIfInBounds r (.map es clock) }, ?_, ⟨_, _, (heap_set hb).1, hs, ?_⟩, fr_heapSet _ _ _, by simp⟩
    · simp [Builtin.delete_, run_underlying hT, MapKept.run_getObj_map hb, MapKept.run_checkKey hK hk, MapKept.run_findKey hK h1, MapKept.run_setObj_map _ hb, Result.andThen]
    · have hf : (kv.filter fun p => p.1 != x) = kv := by
        refine List.filter_eq_self.2 fun p hp' => ?_
        rw [bne_iff_ne]
        intro e
        have := kvGet_of_mem (mapOf_nodup hs hp) (x := p.1) (v := p.2) hp'
        rw [e, h2] at this
        cases this
      rw [hf]; exact hp
  · refine ⟨{ w with heap := w.heap.setIfInBounds r (.map (es.eraseIdxIfInBounds j) clock) }, ?_, ⟨_, _, (heap_set hb).1, stamped_erase hs _, ?_⟩, fr_heapSet _ _ _, by simp⟩
    · simp [Builtin.delete_, run_underlying hT, MapKept.run_getObj_map hb, MapKept.run_checkKey hK hk, MapKept.run_findKey hK h1, MapKept.run_setObj_map _ hb, Result.andThen]
    · obtain ⟨l1, l2, hl, hlen⟩ := perm_put hj
      have hjl : j < es.size := by have := (List.getElem?_eq_some_iff.1 hj).1; simpa using this
      have hm : (es.eraseIdxIfInBounds j).toList = l1 ++ l2 := by
        unfold Array.eraseIdxIfInBounds
        rw [dif_pos hjl, Array.toList_eraseIdx, hl, ← hlen]
        simp [List.eraseIdx_append_of_length_le]
      rw [hm]
      rw [hl] at hp
      have hn : ((l1 ++ e :: l2).map (·.key)).Nodup := by rw [← hl]; exact hs.2.2
      exact filter_kv hp hn he

theorem step_update_of {ops : Array Oper} {o : Oper} {a : Act} {K' : Act → World → Prop} {Q : Exit → Act → World → Prop} {F : Prop} (hgd : o.guard = none) (m x v : Operand) (T : Nat) (hop : o.op = Op.mapUpdate T m x v)
    (K E : Nat) (hT : P.underlying T = some (.map K E)) (hK : P.underlying K = some (.int .i64)) (r : Nat) (kv : List (Int × Value)) (hm : a.eval m = .map (some r)) (key : Int) (hx : a.eval x = .int .i64 key) (val : Value) (hv : a.eval v = val) (h : MapOf w r kv)
    (hk : ∀ w', MapOf w' r ((key, val) :: kv.filter fun p => p.1 != key) → Fr (fun i => i = r) w w' → w'.heap.size = w.heap.size → K' (a.put o.dst undef) w') :
    if Region.wanted o (yielded ops a.tmps) = true then Oper.wp P o a w K' Q else F := by
  have hw : Region.wanted o (yielded ops a.tmps) = true := by simp [Region.wanted, hgd]
  rw [if_pos hw]
  obtain ⟨w', hrun, h1, h2, h3⟩ := run_update_of (P := P) hT hK h key val
  unfold Oper.wp
  simp [execOp, hop, hm, hx, hv, hrun, Result.andThen]
  exact hk w' h1 h2 h3
theorem wpList_update_of {ops : Array Oper} {rest : List Oper} {o : Oper} {a : Act} {Q : Exit → Act → World → Prop} (hgd : o.guard = none) (m x v : Operand) (T : Nat) (hop : o.op = Op.mapUpdate T m x v)
    (K E : Nat) (hT : P.underlying T = some (.map K E)) (hK : P.underlying K = some (.int .i64)) (r : Nat) (kv : List (Int × Value)) (hm : a.eval m = .map (some r)) (key : Int) (hx : a.eval x = .int .i64 key) (val : Value) (hv : a.eval v = val) (h : MapOf w r kv)
    (hk : ∀ w', MapOf w' r ((key, val) :: kv.filter fun p => p.1 != key) → Fr (fun i => i = r) w w' → w'.heap.size = w.heap.size → wpList P ops Q rest (a.put o.dst undef) w') : wpList P ops Q (o :: rest) a w := by
  refine wpList_plain hgd fun K' hK' => ?_
  obtain ⟨w', hrun, h1, h2, h3⟩ := run_update_of (P := P) hT hK h key val
  unfold Oper.wp
  simp [execOp, hop, hm, hx, hv, hrun, Result.andThen]
  exact hK' _ _ (hk w' h1 h2 h3)
theorem wpList_delete_of {ops : Array Oper} {rest : List Oper} {o : Oper} {a : Act} {Q : Exit → Act → World → Prop} (hgd : o.guard = none) (m x : Operand) (T K E : Nat) (hop : o.op = .call { callee := .builtin .delete, args := #[m, x], argTypes := #[T, K] })
    (hT : P.underlying T = some (.map K E)) (hK : P.underlying K = some (.int .i64)) (r : Nat) (kv : List (Int × Value)) (hm : a.eval m = .map (some r)) (key : Int) (hx : a.eval x = .int .i64 key) (h : MapOf w r kv)
    (hk : ∀ w', MapOf w' r (kv.filter fun p => p.1 != key) → Fr (fun i => i = r) w w' → w'.heap.size = w.heap.size → wpList P ops Q rest (a.put o.dst (.tuple #[])) w') : wpList P ops Q (o :: rest) a w := by
  refine wpList_plain hgd fun K' hK' => ?_
  obtain ⟨w', hrun, h1, h2, h3⟩ := run_delete_of (P := P) (ty := o.type) hT hK h key
  unfold Oper.wp execOp
  simp only [hop, resolve, invoke, builtin, Sem.run_bind, Sem.run_pure, Result.andThen_ok, List.map_toArray, List.map_cons, List.map_nil, hm, hx, hrun]
  exact hK' _ _ (hk w' h1 h2 h3)

/-! ### a range over a map -/
/-- Block it is a walk over the map r, which holds kv; 'left' are still to come. -/
def IterOf (w : World) (it r : Nat) (left : List (Int × Value)) : Prop :=
  ∃ es clock seen, w.heap[it]? = some (.mapIter (some r) clock seen clock) ∧ w.heap[r]? = some (.map es clock) ∧ Stamped es clock ∧ (∀ x ∈ es.toList, IsKey (.int .i64) x.key) ∧ (((leftOf es seen).toList).map pairOf).Perm (left.map kvV)
theorem iterOf_move {w W : World} {S : Nat → Prop} {it r : Nat} {left : List (Int × Value)} (h : IterOf w it r left) (hf : Fr S w W) (h1 : ¬ S it) (h2 : ¬ S r) : IterOf W it r left := by
  obtain ⟨es, clock, seen, hi, hr, h⟩ := h
  exact ⟨es, clock, seen, (hf.block it (Array.getElem?_eq_some_iff.1 hi).1 h1).trans hi, (hf.block r (Array.getElem?_eq_some_iff.1 hr).1 h2).trans hr, h⟩
theorem mapOf_move {w W : World} {S : Nat → Prop} {r : Nat} {kv : List (Int × Value)} (h : MapOf w r kv) (hf : Fr S w W) (h2 : ¬ S r) : MapOf W r kv := by
  obtain ⟨es, clock, hr, h⟩ := h
  exact ⟨es, clock, (hf.block r (Array.getElem?_eq_some_iff.1 hr).1 h2).trans hr, h⟩
theorem run_range_of (hT : P.underlying T = some (.map K E)) (h : MapOf w r kv) :
    ∃ w', (Instr.range T (.map (some r))).run P w = .ok (.pointer (some ⟨w.heap.size, 0, none⟩)) w' ∧ IterOf w' w.heap.size r kv ∧ Fr (fun _ => False) w w' ∧ w'.heap.size = w.heap.size + 1 := by
  obtain ⟨es, clock, hb, hs, hp⟩ := h
  refine ⟨w.alloc (.mapIter (some r) clock #[] clock), run_range_map w T K E r es clock hT hb, ⟨es, clock, #[], Go.heap_alloc_new w _, ?_, hs, mapOf_keys hp, ?_⟩, fr_alloc _ _ _, by simp⟩
  · exact (Below.heap_alloc w _ r (Array.getElem?_eq_some_iff.1 hb).1).trans hb
  · have : leftOf es #[] = es := by unfold leftOf; simp
    rw [this]; exact hp
theorem wpList_next_of {ops : Array Oper} {rest : List Oper} {o : Oper} {a : Act} {Q : Exit → Act → World → Prop} (hgd : o.guard = none) (x : Operand) (hop : o.op = Op.next x false) (it : Nat) (left : List (Int × Value)) (hit : a.eval x = .pointer (some ⟨it, 0, none⟩)) (h : IterOf w it r left)
    (hDone : left = [] → wpList P ops Q rest (a.put o.dst (.tuple #[.bool false])) w)
    (hMore : ∀ (k : Int) (v : Value) (left' : List (Int × Value)) (w' : World), left.Perm ((k, v) :: left') → IterOf w' it r left' → Fr (fun i => i = it) w w' → w'.heap.size = w.heap.size → (Instr.entry (.pointer (some ⟨it, 0, none⟩))).run P w' = .ok (.tuple #[.int .i64 k, v]) w' →
      wpList P ops Q rest (a.put o.dst (.tuple #[.bool true, .int .i64 k, v])) w') : wpList P ops Q (o :: rest) a w := by
  refine wpList_plain hgd fun K' hK' => ?_
  obtain ⟨es, clock, seen, hi, hr, hs, hkeys, hp⟩ := h
  unfold Oper.wp
  rcases run_next_at (P := P) w o.type it r clock clock seen es clock hi hr hs.1 (Nat.le_refl _) with ⟨h0, hrun⟩ | ⟨e, he, w1, hw1, hrun⟩
  · have hl : left = [] := by
      have := hp.length_eq
      simp only [List.length_map, Array.length_toList, h0] at this
      exact List.eq_nil_of_length_eq_zero this.symm
    simp [execOp, hop, hit, hrun, Result.andThen]
    exact hK' _ _ (hDone hl)
  · have heM : e ∈ es.toList := by unfold leftOf at he; simp at he ⊢; exact he.1
    obtain ⟨k, hk⟩ : ∃ k, e.key = .int .i64 k := by
      have := hkeys e heM
      cases hq : e.key <;> simp [IsKey, hq] at this
      subst this
      exact ⟨_, rfl⟩
    -- what is left behind the step
    have hq : ((leftOf es seen).toList).Perm (e :: (leftOf es (seen.push e.born)).toList) := by
      have hn : ((leftOf es seen).toList.map (·.born)).Nodup := by
        unfold leftOf
        rw [Array.toList_filter]
        exact (List.filter_sublist.map _).nodup hs.2.1
      have e1 : (leftOf es (seen.push e.born)).toList = (leftOf es seen).toList.filter (fun y => y.born != e.born) := by
        unfold leftOf
        rw [Array.toList_filter, Array.toList_filter, List.filter_filter]
        refine List.filter_congr fun y _ => ?_
        simp only [Array.contains_eq_mem, Array.mem_push]
        by_cases hy : y.born = e.born <;> simp [hy]
      rw [e1]
      generalize (leftOf es seen).toList = L at hn he
      clear e1 hp
      induction L with
      | nil => simp at he
      | cons y L ih =>
        rw [List.map_cons, List.nodup_cons] at hn
        by_cases hy : y = e
        · subst hy
          have : (y :: L).filter (fun z => z.born != y.born) = L := by
            rw [List.filter_cons]
            simp only [bne_self_eq_false, Bool.false_eq_true, if_false]
            refine List.filter_eq_self.2 fun z hz => ?_
            rw [bne_iff_ne]
            intro eq
            exact hn.1 (List.mem_map.2 ⟨z, hz, eq⟩)
          rw [this]
        · have he' : e ∈ L := by
            rcases List.mem_cons.1 he with h | h
            · exact absurd h.symm hy
            · exact h
          have hb : (y.born != e.born) = true := by
            rw [bne_iff_ne]
            intro eq
            exact hn.1 (List.mem_map.2 ⟨e, he', eq.symm⟩)
          rw [List.filter_cons, if_pos hb]
          exact ((ih hn.2 he').cons y).trans (List.Perm.swap _ _ _)
    have hp2 : ((e :: (leftOf es (seen.push e.born)).toList).map pairOf).Perm (left.map kvV) := (hq.map pairOf).symm.trans hp
    rw [List.map_cons] at hp2
    have hmem : pairOf e ∈ left.map kvV := hp2.mem_iff.1 (List.mem_cons_self)
    obtain ⟨p, hpl, hpe⟩ := List.mem_map.1 hmem
    have hp1 : p = (k, e.val) := by
      have e1 : Value.int .i64 p.1 = e.key := congrArg Prod.fst hpe
      have e2 : p.2 = e.val := congrArg Prod.snd hpe
      rw [hk] at e1
      injection e1 with _ e1
      exact Prod.ext e1 e2
    obtain ⟨l1, l2, hl⟩ := List.append_of_mem hpl
    have hperm : left.Perm ((k, e.val) :: (l1 ++ l2)) := by rw [hl, hp1]; exact List.perm_middle
    have hleft : ((leftOf es (seen.push e.born)).toList.map pairOf).Perm ((l1 ++ l2).map kvV) := by
      have h3 := hp2.trans (hperm.map kvV)
      rw [List.map_cons] at h3
      have : pairOf e = kvV (k, e.val) := by rw [← hp1]; exact hpe.symm
      rw [this] at h3
      exact (List.perm_cons _).1 h3
    have hf1 : Fr (fun i => i = it) w w1 := by rcases hw1 with rfl | rfl; exact fr_refl _ _; exact fr_drewN _ w 1
    have hz1 : w1.heap.size = w.heap.size := by rcases hw1 with rfl | rfl <;> rfl
    have hi1 : w1.heap[it]? = some (.mapIter (some r) clock seen clock) := by rcases hw1 with rfl | rfl <;> exact hi
    have hr1 : w1.heap[r]? = some (.map es clock) := by rcases hw1 with rfl | rfl <;> exact hr
    have hne : r ≠ it := by intro e; rw [e, hi] at hr; cases hr
    have hi2 : (ChangeMaps.setBlock w1 it (.mapIter (some r) clock (seen.push e.born) clock)).heap[it]? = some (.mapIter (some r) clock (seen.push e.born) clock) := (MapKept.heap_set hi1).1
    have hr2 : (ChangeMaps.setBlock w1 it (.mapIter (some r) clock (seen.push e.born) clock)).heap[r]? = some (.map es clock) := ((MapKept.heap_set hi1).2 r hne).trans hr1
    have hen := run_entry_at (P := P) _ it r clock seen es clock e hi2 hr2 heM hs.2.1
    rw [hk] at hen hrun
    simp [execOp, hop, hit, hrun, Result.andThen]
    exact hK' _ _ (hMore k e.val (l1 ++ l2) _ hperm ⟨es, clock, seen.push e.born, hi2, hr2, hs, hkeys, hleft⟩
      (fr_trans hf1 (fr_heapSet w1 it _) fun _ _ h => h) (by show (w1.heap.setIfInBounds _ _).size = _; simp [hz1]) hen)
end
end Go.Proofs.YtkoeplbkeboklaaGreat
/- retro: what a step makes of a map. -/
set_option linter.unusedVariables false
set_option linter.unusedSimpArgs false
namespace Go.Proofs.YtkoeplbkeboklaaGreat
open Go.RowKit
def heldKV (h : Held) : Int × Value := (h.key, .agg #[.int .i64 h.key, .int .i64 h.val, .int .i64 h.from_])
def TableAt (w : World) (S : Nat → Prop) (B : Nat) (th : List Held) : Prop := S B ∧ MapOf w B (th.map heldKV)
theorem zero_held (w : World) : (zeroValue 58).run Tryz.prog w = .ok (.agg #[.int .i64 0, .int .i64 0, .int .i64 0]) w := by kernel_rfl
theorem kvGet_held (th : List Held) (k : Int) : kvGet (th.map heldKV) k = (th.find? fun h => h.key == k).map fun h => .agg #[.int .i64 h.key, .int .i64 h.val, .int .i64 h.from_] := by
  induction th with
  | nil => rfl
  | cons h l ih =>
    simp only [kvGet, List.map_cons, List.find?_cons] at ih ⊢
    by_cases e : (h.key == k) = true
    · simp [heldKV, e]
    · have e' : (h.key == k) = false := by simpa using e
      simp only [heldKV, e'] at ih ⊢
      exact ih
theorem filter_held (th : List Held) (k : Int) : ((th.map heldKV).filter fun p => p.1 != k) = (th.filter fun h => h.key != k).map heldKV := by
  rw [List.filter_map]; rfl
theorem mapOf_perm {w : World} {r : Nat} {kv kv' : List (Int × Value)} (h : MapOf w r kv) (hp : kv.Perm kv') : MapOf w r kv' := by
  obtain ⟨es, clock, hb, hs, h⟩ := h
  exact ⟨es, clock, hb, hs, h.trans (hp.map _)⟩
theorem insH_perm (h : Held) : ∀ l : List Held, (insH h l).Perm (h :: l)
  | [] => .refl _
  | x :: l => by
    simp only [insH]
    split
    · exact .refl _
    · exact ((insH_perm h l).cons x).trans (List.Perm.swap _ _ _)
theorem tableAt_move {w W : World} {S R : Nat → Prop} {B : Nat} {th : List Held} (h : TableAt w S B th) (hf : Fr R w W) (hR : ∀ i, S i → ¬ R i) : TableAt W S B th := ⟨h.1, mapOf_move h.2 hf (hR B h.1)⟩

set_option maxHeartbeats 1000000 in
theorem table_in (B : Nat) (th : List Held) (s : Step) (w : World) (hd : s.do_ = 1) (h : MapOf w B (th.map heldKV)) :
    Calls Tryz.prog 121 #[.map (some B), .agg #[.int .i64 s.at_, .int .i64 s.do_, .int .i64 s.key, .int .i64 s.val]] w fun e w' =>
      e = .returned (.agg (((th.find? fun h => h.key == s.key).getD noneH).cells.toArray)) ∧ MapOf w' B ((mapDo th s).1.map heldKV) ∧ Fr (fun i => i = B) w w' := by
  have hBl : B < w.heap.size := by obtain ⟨es, clock, hb, _⟩ := h; exact (Array.getElem?_eq_some_iff.1 hb).1
  have hd1 : (s.do_ == 1) = true := by simp [hd]
  have hres : (mapDo th s).1 = insH (heldOf s) (th.filter fun h => h.key != s.key) := by simp [mapDo, hd]
  have HR := Lib.hid hres
  clear hd hres
  have hq : ∀ o1 o2 : Obj, Below w.heap.size w ((w.alloc o1).alloc o2) := fun o1 o2 => ((Below.refl _ _).alloc (Nat.le_refl _) _).alloc (by simp) _
  have hlk := fun o1 o2 : Obj => run_lookup_of (P := Tryz.prog) (w := (w.alloc o1).alloc o2) (T := 111) Tryz.underlying111 Tryz.underlying3 (zero_held _) (mapOf_move h (fr_of_below (S := fun _ => False) (hq o1 o2)) (fun h => h)) s.key true
  simp only [kvGet_held, if_true] at hlk
  have EN := Lib.hid (enters_of Tryz.func34 (by kernel_rfl) rfl)
  have HM := Lib.hid h
  clear h
  cases hf : (th.find? fun h => h.key == s.key) with
  | none =>
    simp only [hf, Option.map_none, Option.getD_none, Option.isSome_none] at hlk ⊢
    clear hf
    go_enter Tryz.func121, Tryz.ntmps121
    go_wp2
    refine named_box3 w _ _ _ _ _ _ fun W0 hb0 hz0 hx0 hx1 hx2 => ?_
    have d0 := cell_blk hx0 0
    have d1 := cell_blk hx0 1
    have d2 := cell_blk hx0 2
    have d3 := cell_blk hx0 3
    have HX1 := Lib.hid hx1
    have HX2 := Lib.hid hx2
    clear hx0 hx1 hx2 hlk hq
    set_option maxRecDepth 10000 in
    go_region_law ((first | (refine step_call (by rfl) 34 _ _ (by rfl) (EN.out) _ (by rfl) (came_any s _) ?_; rintro _ w2 ⟨rfl, hb2⟩; refine ⟨_, rfl, ?_⟩; have g2 := below_cell hb2 d2; have hb3 := (Below.refl W0.heap.size W0).drew.trans hb2; obtain ⟨w3, hup, hmo, hfr, hsz⟩ := run_update_of (P := Tryz.prog) (T := 111) Tryz.underlying111 Tryz.underlying3 (mapOf_move HM.out (fr_of_below (S := fun _ => False) (hb0.trans (hb3.mono hb0.size))) (fun h => h)) s.key (.agg #[.int .i64 s.key, .int .i64 s.val, .int .i64 s.at_]))))
    all_goals
      have hz2 : W0.heap.size ≤ w2.heap.size := hb2.size
      have hr3 := (hfr.block _ (by omega) (by omega)).trans ((hb3.block _ (by omega)).trans HX1.out)
      have hr4 := (hfr.block _ (by omega) (by omega)).trans ((hb3.block _ (by omega)).trans HX2.out)
      have hF : Fr (fun i => i = B) w w3 := fr_trans (fr_of_below (hb0.trans (hb3.mono hb0.size))) hfr fun _ _ h => h
      have hmo' : MapOf w3 B ((insH (heldOf s) (th.filter fun h => h.key != s.key)).map heldKV) := by
        refine mapOf_perm hmo ?_
        rw [filter_held]
        exact ((insH_perm (heldOf s) _).map heldKV).symm
      have HW3 := Lib.hid (And.intro hmo' (And.intro hF (And.intro hr3 hr4)))
      have hz3 : w.heap.size + 3 ≤ w3.heap.size := by omega
      clear hup hmo' hmo hF hfr hsz hr3 hr4 hb3 hb2 g2 d0 d1 d2 d3
      go_wp2_with fail
      refine (nothing_any _).mono ?_
      rintro e W4 ⟨rfl, hb4⟩
      have hr4 := (hb4.block _ (by omega)).trans HW3.out.2.2.1
      have g0 := cell_blk hr4 0
      have g1 := cell_blk hr4 1
      have g2 := cell_blk hr4 2
      have k0 := free_blk hr4 0
      have k1 := free_blk hr4 1
      have k2 := free_blk hr4 2
      have HG := Lib.hid (And.intro g0 (And.intro g1 g2))
      clear hr4
      go_wp2
      refine bodyPost_ret (v := .agg #[.int .i64 0, .int .i64 0, .int .i64 (-1)]) (by simp [results, Tryz.results121, go_sem, World.cell?_setCell_same', HG.out.1, HG.out.2.1, HG.out.2.2]) rfl ⟨rfl, ?_, ?_⟩
      · rw [HR.out]
        exact mapOf_move (mapOf_move HW3.out.1 (fr_of_below (S := fun _ => False) hb4) (fun h => h)) (stored3 _ _ _ _ _) (by omega)
      · exact fr_trans (fr_trans HW3.out.2.1 (fr_of_below (S := fun _ => False) hb4) fun _ _ h => h.elim) (stored3 _ _ _ _ _) fun i hi e => by omega
  | some h0 =>
    simp only [hf, Option.map_some, Option.getD_some, Option.isSome_some] at hlk ⊢
    clear hf
    go_enter Tryz.func121, Tryz.ntmps121
    go_wp2
    refine named_box3 w _ _ _ _ _ _ fun W0 hb0 hz0 hx0 hx1 hx2 => ?_
    have d0 := cell_blk hx0 0
    have d1 := cell_blk hx0 1
    have d2 := cell_blk hx0 2
    have d3 := cell_blk hx0 3
    have HX1 := Lib.hid hx1
    have HX2 := Lib.hid hx2
    clear hx0 hx1 hx2 hlk hq
    set_option maxRecDepth 10000 in
    go_region_law ((first | (refine step_call (by rfl) 34 _ _ (by rfl) (EN.out) _ (by rfl) (came_any s _) ?_; rintro _ w2 ⟨rfl, hb2⟩; refine ⟨_, rfl, ?_⟩; have g2 := below_cell hb2 d2; have hb3 := (Below.refl W0.heap.size W0).drew.trans hb2; obtain ⟨w3, hup, hmo, hfr, hsz⟩ := run_update_of (P := Tryz.prog) (T := 111) Tryz.underlying111 Tryz.underlying3 (mapOf_move HM.out (fr_of_below (S := fun _ => False) (hb0.trans (hb3.mono hb0.size))) (fun h => h)) s.key (.agg #[.int .i64 s.key, .int .i64 s.val, .int .i64 s.at_]))))
    all_goals
      have hz2 : W0.heap.size ≤ w2.heap.size := hb2.size
      have hr3 := (hfr.block _ (by omega) (by omega)).trans ((hb3.block _ (by omega)).trans HX1.out)
      have hr4 := (hfr.block _ (by omega) (by omega)).trans ((hb3.block _ (by omega)).trans HX2.out)
      have hF : Fr (fun i => i = B) w w3 := fr_trans (fr_of_below (hb0.trans (hb3.mono hb0.size))) hfr fun _ _ h => h
      have hmo' : MapOf w3 B ((insH (heldOf s) (th.filter fun h => h.key != s.key)).map heldKV) := by
        refine mapOf_perm hmo ?_
        rw [filter_held]
        exact ((insH_perm (heldOf s) _).map heldKV).symm
      have HW3 := Lib.hid (And.intro hmo' (And.intro hF (And.intro hr3 hr4)))
      have hz3 : w.heap.size + 3 ≤ w3.heap.size := by omega
      clear hup hmo' hmo hF hfr hsz hr3 hr4 hb3 hb2 g2 d0 d1 d2 d3
      have c0 := cell_blk HW3.out.2.2.2 0
      have c1 := cell_blk HW3.out.2.2.2 1
      have c2 := cell_blk HW3.out.2.2.2 2
      have g0 := cell_blk HW3.out.2.2.1 0
      have g1 := cell_blk HW3.out.2.2.1 1
      have g2 := cell_blk HW3.out.2.2.1 2
      have k0 := free_blk HW3.out.2.2.1 0
      have k1 := free_blk HW3.out.2.2.1 1
      have k2 := free_blk HW3.out.2.2.1 2
      have HG := Lib.hid (And.intro g0 (And.intro g1 g2))
      go_wp2
      refine bodyPost_ret (v := .agg #[.int .i64 h0.key, .int .i64 h0.val, .int .i64 h0.from_]) (by simp [results, Tryz.results121, go_sem, World.cell?_setCell_same', HG.out.1, HG.out.2.1, HG.out.2.2]) rfl ⟨rfl, ?_, ?_⟩
      · rw [HR.out]
        exact mapOf_move HW3.out.1 (stored3 _ _ _ _ _) (by omega)
      · exact fr_trans HW3.out.2.1 (stored3 _ _ _ _ _) fun i hi e => by omega
theorem blk3 (w : World) (cs ds es : Array Value) (T U V : TypeId) :
    Below w.heap.size w (((w.alloc (.cells cs T)).alloc (.cells ds U)).alloc (.cells es V)) ∧ (((w.alloc (.cells cs T)).alloc (.cells ds U)).alloc (.cells es V)).heap.size = w.heap.size + 3 ∧ (((w.alloc (.cells cs T)).alloc (.cells ds U)).alloc (.cells es V)).heap[w.heap.size + 1]? = some (.cells ds U (0, 0)) ∧ (((w.alloc (.cells cs T)).alloc (.cells ds U)).alloc (.cells es V)).heap[w.heap.size + 1 + 1]? = some (.cells es V (0, 0)) :=
  named_box3 w cs ds es T U V (G := fun W => Below w.heap.size w W ∧ W.heap.size = w.heap.size + 3 ∧ W.heap[w.heap.size + 1]? = some (.cells ds U (0, 0)) ∧ W.heap[w.heap.size + 1 + 1]? = some (.cells es V (0, 0))) fun W0 h0 h1 h2 h3 h4 => ⟨h0, h1, h3, h4⟩

set_option maxHeartbeats 1000000 in
theorem table_out (B : Nat) (th : List Held) (s : Step) (w : World) (hd : ¬ s.do_ = 1) (h : MapOf w B (th.map heldKV)) :
    Calls Tryz.prog 121 #[.map (some B), .agg #[.int .i64 s.at_, .int .i64 s.do_, .int .i64 s.key, .int .i64 s.val]] w fun e w' =>
      e = .returned (.agg (((th.find? fun h => h.key == s.key).getD noneH).cells.toArray)) ∧ MapOf w' B ((mapDo th s).1.map heldKV) ∧ Fr (fun i => i = B) w w' := by
  have hBl : B < w.heap.size := by obtain ⟨es, clock, hb, _⟩ := h; exact (Array.getElem?_eq_some_iff.1 hb).1
  have hd1 : (s.do_ == 1) = false := by simp [hd]
  have hres : (mapDo th s).1 = th.filter fun h => h.key != s.key := by simp [mapDo, hd]
  have HR := Lib.hid hres
  clear hd hres
  have hq : ∀ o1 o2 : Obj, Below w.heap.size w ((w.alloc o1).alloc o2) := fun o1 o2 => ((Below.refl _ _).alloc (Nat.le_refl _) _).alloc (by simp) _
  have hlk := fun o1 o2 : Obj => run_lookup_of (P := Tryz.prog) (w := (w.alloc o1).alloc o2) (T := 111) Tryz.underlying111 Tryz.underlying3 (zero_held _) (mapOf_move h (fr_of_below (S := fun _ => False) (hq o1 o2)) (fun h => h)) s.key true
  simp only [kvGet_held, if_true] at hlk
  have HM := Lib.hid h
  clear h hq
  cases hf : (th.find? fun h => h.key == s.key) with
  | none =>
    simp only [hf, Option.map_none, Option.getD_none, Option.isSome_none] at hlk ⊢
    clear hf
    have BK := Lib.hid (blk3 w #[.int .i64 s.at_, .int .i64 s.do_, .int .i64 s.key, .int .i64 s.val] #[.int .i64 0, .int .i64 0, .int .i64 0] #[.int .i64 0, .int .i64 0, .int .i64 0] 46 58 58)
    go_enter Tryz.func121, Tryz.ntmps121
    set_option maxRecDepth 10000 in
    go_wp2_with (at_delete; (refine wpList_delete_of (by rfl) _ _ _ _ _ (by rfl) Tryz.underlying111 Tryz.underlying3 B (th.map heldKV) (by rfl) s.key (by rfl) (mapOf_move HM.out (fr_of_below (S := fun _ => False) BK.out.1) (fun h => h)) ?_); intro w3 hmo hfr hsz; have hz3 : w.heap.size + 3 ≤ w3.heap.size := Nat.le_of_eq (by rw [hsz, BK.out.2.1]); have hr3 := (hfr.block _ (by have := BK.out.2.1; omega) (by omega)).trans BK.out.2.2.1; have hr4 := (hfr.block _ (by have := BK.out.2.1; omega) (by omega)).trans BK.out.2.2.2; have hF : Fr (fun i => i = B) w w3 := fr_trans (fr_of_below BK.out.1) hfr fun _ _ h => h; rw [filter_held] at hmo; have HW3 := Lib.hid (And.intro hmo (And.intro hF (And.intro hr3 hr4))); clear hmo hF hfr hsz hr3 hr4; have c0 := cell_blk HW3.out.2.2.2 0; have c1 := cell_blk HW3.out.2.2.2 1; have c2 := cell_blk HW3.out.2.2.2 2; have g0 := cell_blk HW3.out.2.2.1 0; have g1 := cell_blk HW3.out.2.2.1 1; have g2 := cell_blk HW3.out.2.2.1 2; have k0 := free_blk HW3.out.2.2.1 0; have k1 := free_blk HW3.out.2.2.1 1; have k2 := free_blk HW3.out.2.2.1 2; have HG := Lib.hid (And.intro g0 (And.intro g1 g2)))
    clear g0 g1 g2 k0 k1 k2
    refine (nothing_any _).mono ?_
    rintro e W4 ⟨rfl, hb4⟩
    have hr4 := (hb4.block _ (by omega)).trans HW3.out.2.2.1
    have g0 := cell_blk hr4 0
    have g1 := cell_blk hr4 1
    have g2 := cell_blk hr4 2
    have k0 := free_blk hr4 0
    have k1 := free_blk hr4 1
    have k2 := free_blk hr4 2
    have HG := Lib.hid (And.intro g0 (And.intro g1 g2))
    clear hr4
    go_wp2
    refine bodyPost_ret (v := .agg #[.int .i64 0, .int .i64 0, .int .i64 (-1)]) (by simp [results, Tryz.results121, go_sem, World.cell?_setCell_same', HG.out.1, HG.out.2.1, HG.out.2.2]) rfl ⟨rfl, ?_, ?_⟩
    · rw [HR.out]
      exact mapOf_move (mapOf_move HW3.out.1 (fr_of_below (S := fun _ => False) hb4) (fun h => h)) (stored3 _ _ _ _ _) (by omega)
    · exact fr_trans (fr_trans HW3.out.2.1 (fr_of_below (S := fun _ => False) hb4) fun _ _ h => h.elim) (stored3 _ _ _ _ _) fun i hi e => by omega
  | some h0 =>
    simp only [hf, Option.map_some, Option.getD_some, Option.isSome_some] at hlk ⊢
    clear hf
    have BK := Lib.hid (blk3 w #[.int .i64 s.at_, .int .i64 s.do_, .int .i64 s.key, .int .i64 s.val] #[.int .i64 0, .int .i64 0, .int .i64 0] #[.int .i64 h0.key, .int .i64 h0.val, .int .i64 h0.from_] 46 58 58)
    go_enter Tryz.func121, Tryz.ntmps121
    set_option maxRecDepth 10000 in
    go_wp2_with (at_delete; (refine wpList_delete_of (by rfl) _ _ _ _ _ (by rfl) Tryz.underlying111 Tryz.underlying3 B (th.map heldKV) (by rfl) s.key (by rfl) (mapOf_move HM.out (fr_of_below (S := fun _ => False) BK.out.1) (fun h => h)) ?_); intro w3 hmo hfr hsz; have hz3 : w.heap.size + 3 ≤ w3.heap.size := Nat.le_of_eq (by rw [hsz, BK.out.2.1]); have hr3 := (hfr.block _ (by have := BK.out.2.1; omega) (by omega)).trans BK.out.2.2.1; have hr4 := (hfr.block _ (by have := BK.out.2.1; omega) (by omega)).trans BK.out.2.2.2; have hF : Fr (fun i => i = B) w w3 := fr_trans (fr_of_below BK.out.1) hfr fun _ _ h => h; rw [filter_held] at hmo; have HW3 := Lib.hid (And.intro hmo (And.intro hF (And.intro hr3 hr4))); clear hmo hF hfr hsz hr3 hr4; have c0 := cell_blk HW3.out.2.2.2 0; have c1 := cell_blk HW3.out.2.2.2 1; have c2 := cell_blk HW3.out.2.2.2 2; have g0 := cell_blk HW3.out.2.2.1 0; have g1 := cell_blk HW3.out.2.2.1 1; have g2 := cell_blk HW3.out.2.2.1 2; have k0 := free_blk HW3.out.2.2.1 0; have k1 := free_blk HW3.out.2.2.1 1; have k2 := free_blk HW3.out.2.2.1 2; have HG := Lib.hid (And.intro g0 (And.intro g1 g2)))
    refine bodyPost_ret (v := .agg #[.int .i64 h0.key, .int .i64 h0.val, .int .i64 h0.from_]) (by simp [results, Tryz.results121, go_sem, World.cell?_setCell_same', HG.out.1, HG.out.2.1, HG.out.2.2]) rfl ⟨rfl, ?_, ?_⟩
    · rw [HR.out]
      exact mapOf_move HW3.out.1 (stored3 _ _ _ _ _) (by omega)
    · exact fr_trans HW3.out.2.1 (stored3 _ _ _ _ _) fun i hi e => by omega
end Go.Proofs.YtkoeplbkeboklaaGreat
