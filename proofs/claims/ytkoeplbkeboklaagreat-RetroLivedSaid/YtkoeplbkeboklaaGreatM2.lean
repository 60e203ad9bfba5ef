/- My texts of layer 14, joined: R5, R1, P3, R6, P4, Base3, R9, R10, R8, R11, P5, R12, R13, R15, R18, P6, P7, P8, P9, P10, Base4, R16, R24, P13, R17, R39. -/
import Derived.Test.YtkoeplbkeboklaaGreatM1
import Derived.Laws.StructEq
import Derived.Deep.RegionLaw
import Derived.Shelf.Abstract
import Derived.Deep.DeepCutAuto
import Derived.Deep.RegionHeld3
/- retro: what is there, of whatever kind: an empty store, and a step on it. -/
set_option linter.unusedVariables false
set_option linter.unusedSimpArgs false
namespace Go.Proofs.YtkoeplbkeboklaaGreat
open Go.RowKit
/-- x is a store of kind k that holds th; its blocks are among S. -/
def StoreAt (k : Int) (w : World) (S : Nat → Prop) (x : Value) (th : List Held) : Prop :=
  (k = 1 ∧ ∃ B, x = .iface 104 (.pointer (some ⟨B, 0, none⟩)) ∧ ListAt 107 w S B th) ∨
  (k = 2 ∧ ∃ B, x = .iface 108 (.pointer (some ⟨B, 0, none⟩)) ∧ ListAt 109 w S B th) ∨
  (k ≠ 1 ∧ k ≠ 2 ∧ ∃ B, x = .iface 111 (.map (some B)) ∧ TableAt w S B th)
theorem listAt_lt {T : Nat} {w : World} {S : Nat → Prop} {B : Nat} {th : List Held} (h : ListAt T w S B th) : ListAt T w (fun i => S i ∧ i < w.heap.size) B th := by
  obtain ⟨hB, v, hb, hw⟩ := h
  exact ⟨⟨hB, (Array.getElem?_eq_some_iff.1 hb).1⟩, v, hb, winC_mono (winC_block hw) fun i hi => ⟨⟨hi.2.1.1, hi.2.2⟩, hi.2.1.2⟩⟩
theorem storeAt_lt {k : Int} {w : World} {S : Nat → Prop} {x : Value} {th : List Held} (h : StoreAt k w S x th) : StoreAt k w (fun i => S i ∧ i < w.heap.size) x th := by
  rcases h with ⟨h, B, e, hl⟩ | ⟨h, B, e, hl⟩ | ⟨h, h', B, e, hl⟩
  · exact .inl ⟨h, B, e, listAt_lt hl⟩
  · exact .inr (.inl ⟨h, B, e, listAt_lt hl⟩)
  · refine .inr (.inr ⟨h, h', B, e, ⟨hl.1, ?_⟩, hl.2⟩)
    obtain ⟨es, clock, hb, _⟩ := hl.2
    exact (Array.getElem?_eq_some_iff.1 hb).1
theorem listAt_mono {T : Nat} {w : World} {S R : Nat → Prop} {B : Nat} {th : List Held} (h : ListAt T w S B th) (hR : ∀ i, S i → R i) : ListAt T w R B th := by
  obtain ⟨hB, v, hb, hw⟩ := h
  exact ⟨hR B hB, v, hb, winC_mono hw fun i hi => ⟨hR i hi.1, hi.2⟩⟩
theorem storeAt_mono {k : Int} {w : World} {S R : Nat → Prop} {x : Value} {th : List Held} (h : StoreAt k w S x th) (hR : ∀ i, S i → R i) : StoreAt k w R x th := by
  rcases h with ⟨h, B, e, hl⟩ | ⟨h, B, e, hl⟩ | ⟨h, h', B, e, hl⟩
  · exact .inl ⟨h, B, e, listAt_mono hl hR⟩
  · exact .inr (.inl ⟨h, B, e, listAt_mono hl hR⟩)
  · exact .inr (.inr ⟨h, h', B, e, hR B hl.1, hl.2⟩)
theorem storeAt_move {k : Int} {w W : World} {S R : Nat → Prop} {x : Value} {th : List Held} (h : StoreAt k w S x th) (hf : Fr R w W) (hR : ∀ i, S i → ¬ R i) : StoreAt k W S x th := by
  rcases h with ⟨h, B, e, hl⟩ | ⟨h, B, e, hl⟩ | ⟨h, h', B, e, hl⟩
  · exact .inl ⟨h, B, e, listAt_move hl hf hR⟩
  · exact .inr (.inl ⟨h, B, e, listAt_move hl hf hR⟩)
  · exact .inr (.inr ⟨h, h', B, e, tableAt_move hl hf hR⟩)

theorem empty_any (k : Int) (w : World) : Calls Tryz.prog 36 #[.int .i64 k] w fun e w' => ∃ x, e = .returned x ∧ StoreAt k w' (fun i => w.heap.size ≤ i ∧ i < w'.heap.size) x [] ∧ Below w.heap.size w w' := by
  by_cases h1 : k = 1
  · have hb1 : (k == 1) = true := by simp [h1]
    have H1 := Lib.hid h1; clear h1
    go_enter Tryz.func36, Tryz.ntmps36
    go_wp2
    go_ret
    exact ⟨_, rfl, .inl ⟨H1.out, w.heap.size, rfl, ⟨Nat.le_refl _, by simp⟩, .slice none 0 0, heap_alloc_new w _, winC_nil _ _ _ _⟩, (Below.refl _ _).alloc (Nat.le_refl _) _⟩
  · have hb1 : (k == 1) = false := by simp [h1]
    by_cases h2 : k = 2
    · have hb2 : (k == 2) = true := by simp [h2]
      have H1 := Lib.hid h2; clear h1 h2
      go_enter Tryz.func36, Tryz.ntmps36
      go_wp2
      go_ret
      exact ⟨_, rfl, .inr (.inl ⟨H1.out, w.heap.size, rfl, ⟨Nat.le_refl _, by simp⟩, .slice none 0 0, heap_alloc_new w _, winC_nil _ _ _ _⟩), (Below.refl _ _).alloc (Nat.le_refl _) _⟩
    · have hb2 : (k == 2) = false := by simp [h2]
      have hmm := @run_makeMap Tryz.prog
      have H1 := Lib.hid (And.intro h1 h2); clear h1 h2
      go_enter Tryz.func36, Tryz.ntmps36
      go_wp2
      go_ret
      exact ⟨_, rfl, .inr (.inr ⟨H1.out.1, H1.out.2, w.heap.size, rfl, ⟨Nat.le_refl _, by simp⟩, #[], 0, heap_alloc_new w _, MapKept.stamped_empty 0, .refl _⟩), (Below.refl _ _).alloc (Nat.le_refl _) _⟩
theorem callM_stack (a : Addr) (s : Value) (w : World) : (callMethod (.iface 104 (.pointer (some a))) "afterword/retro.do" #[s]).run Tryz.prog w = .ok (.enter 118 #[.pointer (some a), s]) w := by kernel_rfl
theorem callM_queue (a : Addr) (s : Value) (w : World) : (callMethod (.iface 108 (.pointer (some a))) "afterword/retro.do" #[s]).run Tryz.prog w = .ok (.enter 120 #[.pointer (some a), s]) w := by kernel_rfl
theorem callM_table (r : Option Nat) (s : Value) (w : World) : (callMethod (.iface 111 (.map r)) "afterword/retro.do" #[s]).run Tryz.prog w = .ok (.enter 121 #[.map r, s]) w := by kernel_rfl
/-- What a step leaves. -/
def DoPost (k : Int) (S : Nat → Prop) (x : Value) (th : List Held) (s : Step) (w : World) (e : Ending) (w' : World) : Prop :=
  e = .returned (.agg #[.int .i64 (doP k th s).2.key, .int .i64 (doP k th s).2.val, .int .i64 (doP k th s).2.from_]) ∧ ∃ S', StoreAt k w' S' x (doP k th s).1 ∧ (∀ i, S' i → (S i ∨ w.heap.size ≤ i) ∧ i < w'.heap.size) ∧ Fr S w w'
theorem doPost_of {k : Int} {S : Nat → Prop} {x : Value} {th : List Held} {s : Step} {w : World} {e : Ending} {w' : World} {g : Held} {th' : List Held} (hd : doP k th s = (th', g)) (he : e = .returned (.agg #[.int .i64 g.key, .int .i64 g.val, .int .i64 g.from_]))
    (h : ∃ S', StoreAt k w' S' x th' ∧ (∀ i, S' i → S i ∨ w.heap.size ≤ i) ∧ Fr S w w') : DoPost k S x th s w e w' := by
  obtain ⟨S', h1, h2, h3⟩ := h
  refine ⟨by rw [hd]; exact he, fun i => S' i ∧ i < w'.heap.size, ?_, fun i hi => ⟨h2 i hi.1, hi.2⟩, h3⟩
  rw [hd]; exact storeAt_lt h1
theorem do_any (k : Int) (S : Nat → Prop) (x : Value) (th : List Held) (s : Step) (w : World) (h : StoreAt k w S x th) (hS : ∀ i, S i → i < w.heap.size) (hth : th.length < 1000000) :
    ∃ f args, (∀ w, (callMethod x "afterword/retro.do" #[.agg #[.int .i64 s.at_, .int .i64 s.do_, .int .i64 s.key, .int .i64 s.val]]).run Tryz.prog w = .ok (.enter f args) w) ∧ Calls Tryz.prog f args w (DoPost k S x th s w) := by
  rcases h with ⟨hk, B, rfl, hl⟩ | ⟨hk, B, rfl, hl⟩ | ⟨hk1, hk2, B, rfl, hl⟩
  · have up : ∀ {W : World} {l : List Held}, (∃ S', ListAt 107 W S' B l ∧ (∀ i, S' i → S i ∨ w.heap.size ≤ i) ∧ Fr S w W) → ∃ S', StoreAt k W S' (.iface 104 (.pointer (some ⟨B, 0, none⟩))) l ∧ (∀ i, S' i → S i ∨ w.heap.size ≤ i) ∧ Fr S w W :=
      fun ⟨S', h1, h2, h3⟩ => ⟨S', .inl ⟨hk, B, rfl, h1⟩, h2, h3⟩
    refine ⟨_, _, fun w => callM_stack _ _ w, ?_⟩
    by_cases hd : s.do_ = 1
    · exact (stack_in B S th s w hd hl hth).mono fun e w' h => doPost_of (g := noneH) (by simp [doP, hk, stackDo, hd]) h.1 (up h.2)
    · rcases List.eq_nil_or_concat th with rfl | ⟨l, hd0, rfl⟩
      · exact (stack_none B S s w hd hl hS).mono fun e w' h => doPost_of (g := noneH) (by simp [doP, hk, stackDo, hd]) h.1 (up h.2)
      · rw [List.concat_eq_append] at hl hth ⊢
        exact (stack_pop B S (l ++ [hd0]) l.length hd0 s w hd hl hS (by simp) (by simp at hth; omega) (by simp)).mono fun e w' h => doPost_of (g := hd0) (by simp [doP, hk, stackDo, hd]) h.1 (up h.2)
  · have up : ∀ {W : World} {l : List Held}, (∃ S', ListAt 109 W S' B l ∧ (∀ i, S' i → S i ∨ w.heap.size ≤ i) ∧ Fr S w W) → ∃ S', StoreAt k W S' (.iface 108 (.pointer (some ⟨B, 0, none⟩))) l ∧ (∀ i, S' i → S i ∨ w.heap.size ≤ i) ∧ Fr S w W :=
      fun ⟨S', h1, h2, h3⟩ => ⟨S', .inr (.inl ⟨hk, B, rfl, h1⟩), h2, h3⟩
    refine ⟨_, _, fun w => callM_queue _ _ w, ?_⟩
    by_cases hd : s.do_ = 1
    · exact (queue_in B S th s w hd hl hth).mono fun e w' h => doPost_of (g := noneH) (by simp [doP, hk, queueDo, hd]) h.1 (up h.2)
    · cases th with
      | nil => exact (queue_none B S s w hd hl hS).mono fun e w' h => doPost_of (g := noneH) (by simp [doP, hk, queueDo, hd]) h.1 (up h.2)
      | cons hd0 l => exact (queue_pop B S l hd0 s w hd hl hS (by simp at hth; omega)).mono fun e w' h => doPost_of (g := hd0) (by simp [doP, hk, queueDo, hd]) h.1 (up h.2)
  · have up : ∀ {W : World} {l : List Held}, MapOf W B (l.map heldKV) → Fr (fun i => i = B) w W → ∃ S', StoreAt k W S' (.iface 111 (.map (some B))) l ∧ (∀ i, S' i → S i ∨ w.heap.size ≤ i) ∧ Fr S w W :=
      fun h1 h2 => ⟨S, .inr (.inr ⟨hk1, hk2, B, rfl, hl.1, h1⟩), fun i hi => .inl hi, fr_mono h2 fun i e => e ▸ hl.1⟩
    refine ⟨_, _, fun w => callM_table _ _ w, ?_⟩
    have hdo : doP k th s = mapDo th s := by simp [doP, hk1, hk2]
    by_cases hd : s.do_ = 1
    · exact (table_in B th s w hd hl.2).mono fun e w' h => doPost_of hdo h.1 (up h.2.1 h.2.2)
    · exact (table_out B th s w hd hl.2).mono fun e w' h => doPost_of hdo h.1 (up h.2.1 h.2.2)
end Go.Proofs.YtkoeplbkeboklaaGreat
/- retro: the functions that compare two lists of pairs, spans, lives, steps: they return whether the two are equal. -/
set_option linter.unusedVariables false
set_option linter.unusedSimpArgs false
namespace Go.Proofs.YtkoeplbkeboklaaGreat
open Go.RowKit
def Pair.cells (s : Pair) : List Value := [.int .i64 s.key, .int .i64 s.val]
def Span.cells (s : Span) : List Value := [.int .i64 s.from_, .int .i64 s.to_]
def Life.cells (s : Life) : List Value := [.int .i64 s.from_, .int .i64 s.to_, .int .i64 s.key, .int .i64 s.val]

theorem neqPair (x y : Pair) (w : World) : (binOp .neq 39 (.agg #[.int .i64 x.key, .int .i64 x.val]) (.agg #[.int .i64 y.key, .int .i64 y.val])).run Tryz.prog w = .ok (.bool (!decide (x = y))) w := by
  have u3 := Tryz.underlying3
  have a3 := Tryz.isAgg3
  have z3 := Tryz.sizeOf3
  have hS : Tryz.prog.underlying 39 = some (.struct (Tryz.prog.fieldsOf 39)) := by kernel_rfl
  have hp : Tryz.prog.stoodInHeld 39 = false := by kernel_rfl
  rw [run_neq_struct, show (10000 : Nat) = 9999 + 1 from rfl, run_equalIn_agg w 9999 39 _ _ hS hp]
  simp only [Program.fieldsOf, Tryz.underlying39]
  go_simp
  obtain ⟨a, b⟩ := x
  obtain ⟨c, d⟩ := y
  by_cases h1 : a = c <;> by_cases h2 : b = d <;> simp [h1, h2]

theorem neqSpan (x y : Span) (w : World) : (binOp .neq 50 (.agg #[.int .i64 x.from_, .int .i64 x.to_]) (.agg #[.int .i64 y.from_, .int .i64 y.to_])).run Tryz.prog w = .ok (.bool (!decide (x = y))) w := by
  have u3 := Tryz.underlying3
  have a3 := Tryz.isAgg3
  have z3 := Tryz.sizeOf3
  have hS : Tryz.prog.underlying 50 = some (.struct (Tryz.prog.fieldsOf 50)) := by kernel_rfl
  have hp : Tryz.prog.stoodInHeld 50 = false := by kernel_rfl
  rw [run_neq_struct, show (10000 : Nat) = 9999 + 1 from rfl, run_equalIn_agg w 9999 50 _ _ hS hp]
  simp only [Program.fieldsOf, Tryz.underlying50]
  go_simp
  obtain ⟨a, b⟩ := x
  obtain ⟨c, d⟩ := y
  by_cases h1 : a = c <;> by_cases h2 : b = d <;> simp [h1, h2]

theorem neqLife (x y : Life) (w : World) : (binOp .neq 41 (.agg #[.int .i64 x.from_, .int .i64 x.to_, .int .i64 x.key, .int .i64 x.val]) (.agg #[.int .i64 y.from_, .int .i64 y.to_, .int .i64 y.key, .int .i64 y.val])).run Tryz.prog w = .ok (.bool (!decide (x = y))) w := by
  have u3 := Tryz.underlying3
  have a3 := Tryz.isAgg3
  have z3 := Tryz.sizeOf3
  have aP := Tryz.isAgg39
  have zP := Tryz.sizeOf39
  have hS : Tryz.prog.underlying 41 = some (.struct (Tryz.prog.fieldsOf 41)) := by kernel_rfl
  have hp : Tryz.prog.stoodInHeld 41 = false := by kernel_rfl
  have hSP : Tryz.prog.underlying 39 = some (.struct (Tryz.prog.fieldsOf 39)) := by kernel_rfl
  have hpP : Tryz.prog.stoodInHeld 39 = false := by kernel_rfl
  have uP := Tryz.underlying39
  rw [run_neq_struct, show (10000 : Nat) = 9998 + 1 + 1 from rfl, run_equalIn_agg w (9998 + 1) 41 _ _ hS hp]
  simp only [Program.fieldsOf, Tryz.underlying41] at hSP ⊢
  simp only [uP] at hSP
  have hq : ∀ a b c d w', (Op.equalIn 9999 39 (.agg #[.int .i64 a, .int .i64 b]) (.agg #[.int .i64 c, .int .i64 d])).run Tryz.prog w' = .ok (a == c && b == d) w' := by
    intro a b c d w'
    rw [show (9999 : Nat) = 9998 + 1 from rfl, run_equalIn_agg w' 9998 39 _ _ (by kernel_rfl) hpP]
    simp only [Program.fieldsOf, uP]
    go_simp
    by_cases h1 : a = c <;> by_cases h2 : b = d <;> simp [h1, h2]
  clear hSP hS hp uP
  go_simp
  obtain ⟨a, b, c, d⟩ := x
  obtain ⟨a', b', c', d'⟩ := y
  by_cases h1 : a = a' <;> by_cases h2 : b = b' <;> by_cases h3 : c = c' <;> by_cases h4 : d = d' <;> simp [h1, h2, h3, h4]
theorem neqStep (x y : Step) (w : World) : (binOp .neq 46 (.agg #[.int .i64 x.at_, .int .i64 x.do_, .int .i64 x.key, .int .i64 x.val]) (.agg #[.int .i64 y.at_, .int .i64 y.do_, .int .i64 y.key, .int .i64 y.val])).run Tryz.prog w = .ok (.bool (!decide (x = y))) w := by
  have u3 := Tryz.underlying3
  have a3 := Tryz.isAgg3
  have z3 := Tryz.sizeOf3
  have u37 := Tryz.underlying44
  have a37 := Tryz.isAgg44
  have z37 := Tryz.sizeOf44
  have hS : Tryz.prog.underlying 46 = some (.struct (Tryz.prog.fieldsOf 46)) := by kernel_rfl
  have hp : Tryz.prog.stoodInHeld 46 = false := by kernel_rfl
  rw [run_neq_struct, show (10000 : Nat) = 9999 + 1 from rfl, run_equalIn_agg w 9999 46 _ _ hS hp]
  simp only [Program.fieldsOf, Tryz.underlying46]
  go_simp
  obtain ⟨a, b, c, d⟩ := x
  obtain ⟨a', b', c', d'⟩ := y
  by_cases h1 : a = a' <;> by_cases h2 : b = b' <;> by_cases h3 : c = c' <;> by_cases h4 : d = d' <;> simp [h1, h2, h3, h4]

set_option maxHeartbeats 2000000 in
/-- differs: two rows are read and compared. -/
theorem differs_any (v1 v2 : Value) (xs ys : List Pair) (w : World) (h1 : Rd Pair.cells 2 w v1 xs) (h2 : Rd Pair.cells 2 w v2 ys) :
    Calls Tryz.prog 65 #[v1, v2] w fun e w' => e = .returned (.bool (!decide (xs = ys))) ∧ Below w.heap.size w w' := by
  obtain ⟨n1, a1, c1, rfl, r1⟩ := h1
  obtain ⟨n2, a2, c2, rfl, r2⟩ := h2
  by_cases hl : xs.length = ys.length
  · have hlb : ((xs.length : Int) != (ys.length : Int)) = false := by rw [hl]; simp
    have hlc : ((ys.length : Int) != (ys.length : Int)) = false := by simp
    rw [hl] at hlb ⊢
    have HL := Lib.hid hl
    have m1 : xs.length ≤ ys.length := by omega
    have m2 : ys.length ≤ xs.length := by omega
    clear hl n1
    have R1 := Lib.hid r1
    have R2 := Lib.hid r2
    clear r1 r2
    go_enter Tryz.func65, Tryz.ntmps65
    go_wp2
    go_loopw [13] (fun i W => ∃ n : Nat, i = .int .i64 n ∧ n ≤ ys.length ∧ eqTo xs ys n ∧ Below w.heap.size w W) (fun i _ => ys.length - (intOf i).toNat)
    case atStart => exact ⟨0, rfl, by omega, eqTo_zero _ _, Below.refl _ _⟩
    case round =>
      obtain ⟨n, rfl, hnl, hok, hB⟩ := hrel
      by_cases hlt' : n < ys.length
      · obtain ⟨b1, o1, rfl, hb1, rd1⟩ := R1.out (by omega)
        obtain ⟨b2, o2, rfl, hb2, rd2⟩ := R2.out (by omega)
        have hx := List.getElem?_eq_getElem (show n < xs.length by omega)
        have hy := List.getElem?_eq_getElem (show n < ys.length by omega)
        generalize xs[n] = x at hx
        generalize ys[n] = y at hy
        have hc1 : ∀ j u, x.cells[j]? = some u → wr.cell? ⟨b1, o1 + n * 2 + j, none⟩ = some u := fun j u hu => (hB.cell (p := ⟨b1, _, none⟩) hb1).trans (rd1 n x hx j u hu)
        have hc2 : ∀ j u, y.cells[j]? = some u → wr.cell? ⟨b2, o2 + n * 2 + j, none⟩ = some u := fun j u hu => (hB.cell (p := ⟨b2, _, none⟩) hb2).trans (rd2 n y hy j u hu)
        have HX := Lib.hid hx; clear hx
        have HY := Lib.hid hy; clear hy
        have q0 : wr.cell? ⟨b1, o1 + n * 2, none⟩ = some (.int .i64 x.key) := hc1 0 _ rfl
        have q1 := hc1 1 _ rfl
        have p0 : wr.cell? ⟨b2, o2 + n * 2, none⟩ = some (.int .i64 y.key) := hc2 0 _ rfl
        have p1 := hc2 1 _ rfl
        clear hc1 hc2 rd1 rd2 R1 R2
        have hne := fun w' => neqPair x y w'
        by_cases hxy : x = y
        · have hd : decide (x = y) = true := decide_eq_true hxy
          have HE := Lib.hid hxy; clear hxy
          go_wp2
          go_quiet (fail)
          go_wp2
          go_roundw
          case rel => exact ⟨n + 1, by go_num, by omega, eqTo_succ hok HX.out HY.out HE.out, below_drewN hB _⟩
          case measure => simp [intOf]; omega
        · have hd : decide (x = y) = false := decide_eq_false hxy
          have HE := Lib.hid hxy; clear hxy
          go_wp2
          go_quiet (fail)
          go_wp2
          go_ret
          exact ⟨by rw [eqTo_bad HX.out HY.out HE.out]; rfl, below_drewN hB _⟩
      · obtain rfl : n = ys.length := by omega
        clear R1 R2
        go_wp2
        go_ret
        exact ⟨by rw [eqTo_all HL.out hok]; rfl, hB⟩
  · have hlb : ((xs.length : Int) != (ys.length : Int)) = true := by simp; omega
    have e : decide (xs = ys) = false := decide_eq_false fun h => hl (by rw [h])
    rw [e]
    clear r1 r2 e hl
    go_enter Tryz.func65, Tryz.ntmps65
    go_wp2
    go_ret
    exact ⟨rfl, Below.refl _ _⟩

set_option maxHeartbeats 2000000 in
/-- samePairs: two rows are read and compared. -/
theorem samePairs_any (v1 v2 : Value) (xs ys : List Pair) (w : World) (h1 : Rd Pair.cells 2 w v1 xs) (h2 : Rd Pair.cells 2 w v2 ys) :
    Calls Tryz.prog 21 #[v1, v2] w fun e w' => e = .returned (.bool (decide (xs = ys))) ∧ Below w.heap.size w w' := by
  obtain ⟨n1, a1, c1, rfl, r1⟩ := h1
  obtain ⟨n2, a2, c2, rfl, r2⟩ := h2
  by_cases hl : xs.length = ys.length
  · have hlb : ((xs.length : Int) != (ys.length : Int)) = false := by rw [hl]; simp
    have hlc : ((ys.length : Int) != (ys.length : Int)) = false := by simp
    rw [hl] at hlb ⊢
    have HL := Lib.hid hl
    have m1 : xs.length ≤ ys.length := by omega
    have m2 : ys.length ≤ xs.length := by omega
    clear hl n1
    have R1 := Lib.hid r1
    have R2 := Lib.hid r2
    clear r1 r2
    go_enter Tryz.func21, Tryz.ntmps21
    go_wp2
    go_loopw [13] (fun i W => ∃ n : Nat, i = .int .i64 n ∧ n ≤ ys.length ∧ eqTo xs ys n ∧ Below w.heap.size w W) (fun i _ => ys.length - (intOf i).toNat)
    case atStart => exact ⟨0, rfl, by omega, eqTo_zero _ _, Below.refl _ _⟩
    case round =>
      obtain ⟨n, rfl, hnl, hok, hB⟩ := hrel
      by_cases hlt' : n < ys.length
      · obtain ⟨b1, o1, rfl, hb1, rd1⟩ := R1.out (by omega)
        obtain ⟨b2, o2, rfl, hb2, rd2⟩ := R2.out (by omega)
        have hx := List.getElem?_eq_getElem (show n < xs.length by omega)
        have hy := List.getElem?_eq_getElem (show n < ys.length by omega)
        generalize xs[n] = x at hx
        generalize ys[n] = y at hy
        have hc1 : ∀ j u, x.cells[j]? = some u → wr.cell? ⟨b1, o1 + n * 2 + j, none⟩ = some u := fun j u hu => (hB.cell (p := ⟨b1, _, none⟩) hb1).trans (rd1 n x hx j u hu)
        have hc2 : ∀ j u, y.cells[j]? = some u → wr.cell? ⟨b2, o2 + n * 2 + j, none⟩ = some u := fun j u hu => (hB.cell (p := ⟨b2, _, none⟩) hb2).trans (rd2 n y hy j u hu)
        have HX := Lib.hid hx; clear hx
        have HY := Lib.hid hy; clear hy
        have q0 : wr.cell? ⟨b1, o1 + n * 2, none⟩ = some (.int .i64 x.key) := hc1 0 _ rfl
        have q1 := hc1 1 _ rfl
        have p0 : wr.cell? ⟨b2, o2 + n * 2, none⟩ = some (.int .i64 y.key) := hc2 0 _ rfl
        have p1 := hc2 1 _ rfl
        clear hc1 hc2 rd1 rd2 R1 R2
        have hne := fun w' => neqPair x y w'
        by_cases hxy : x = y
        · have hd : decide (x = y) = true := decide_eq_true hxy
          have HE := Lib.hid hxy; clear hxy
          go_wp2
          go_quiet (fail)
          go_wp2
          go_roundw
          case rel => exact ⟨n + 1, by go_num, by omega, eqTo_succ hok HX.out HY.out HE.out, below_drewN hB _⟩
          case measure => simp [intOf]; omega
        · have hd : decide (x = y) = false := decide_eq_false hxy
          have HE := Lib.hid hxy; clear hxy
          go_wp2
          go_quiet (fail)
          go_wp2
          go_ret
          exact ⟨by rw [eqTo_bad HX.out HY.out HE.out]; rfl, below_drewN hB _⟩
      · obtain rfl : n = ys.length := by omega
        clear R1 R2
        go_wp2
        go_ret
        exact ⟨by rw [eqTo_all HL.out hok]; rfl, hB⟩
  · have hlb : ((xs.length : Int) != (ys.length : Int)) = true := by simp; omega
    have e : decide (xs = ys) = false := decide_eq_false fun h => hl (by rw [h])
    rw [e]
    clear r1 r2 e hl
    go_enter Tryz.func21, Tryz.ntmps21
    go_wp2
    go_ret
    exact ⟨rfl, Below.refl _ _⟩

set_option maxHeartbeats 2000000 in
/-- sameSpans: two rows are read and compared. -/
theorem sameSpans_any (v1 v2 : Value) (xs ys : List Span) (w : World) (h1 : Rd Span.cells 2 w v1 xs) (h2 : Rd Span.cells 2 w v2 ys) :
    Calls Tryz.prog 23 #[v1, v2] w fun e w' => e = .returned (.bool (decide (xs = ys))) ∧ Below w.heap.size w w' := by
  obtain ⟨n1, a1, c1, rfl, r1⟩ := h1
  obtain ⟨n2, a2, c2, rfl, r2⟩ := h2
  by_cases hl : xs.length = ys.length
  · have hlb : ((xs.length : Int) != (ys.length : Int)) = false := by rw [hl]; simp
    have hlc : ((ys.length : Int) != (ys.length : Int)) = false := by simp
    rw [hl] at hlb ⊢
    have HL := Lib.hid hl
    have m1 : xs.length ≤ ys.length := by omega
    have m2 : ys.length ≤ xs.length := by omega
    clear hl n1
    have R1 := Lib.hid r1
    have R2 := Lib.hid r2
    clear r1 r2
    go_enter Tryz.func23, Tryz.ntmps23
    go_wp2
    go_loopw [13] (fun i W => ∃ n : Nat, i = .int .i64 n ∧ n ≤ ys.length ∧ eqTo xs ys n ∧ Below w.heap.size w W) (fun i _ => ys.length - (intOf i).toNat)
    case atStart => exact ⟨0, rfl, by omega, eqTo_zero _ _, Below.refl _ _⟩
    case round =>
      obtain ⟨n, rfl, hnl, hok, hB⟩ := hrel
      by_cases hlt' : n < ys.length
      · obtain ⟨b1, o1, rfl, hb1, rd1⟩ := R1.out (by omega)
        obtain ⟨b2, o2, rfl, hb2, rd2⟩ := R2.out (by omega)
        have hx := List.getElem?_eq_getElem (show n < xs.length by omega)
        have hy := List.getElem?_eq_getElem (show n < ys.length by omega)
        generalize xs[n] = x at hx
        generalize ys[n] = y at hy
        have hc1 : ∀ j u, x.cells[j]? = some u → wr.cell? ⟨b1, o1 + n * 2 + j, none⟩ = some u := fun j u hu => (hB.cell (p := ⟨b1, _, none⟩) hb1).trans (rd1 n x hx j u hu)
        have hc2 : ∀ j u, y.cells[j]? = some u → wr.cell? ⟨b2, o2 + n * 2 + j, none⟩ = some u := fun j u hu => (hB.cell (p := ⟨b2, _, none⟩) hb2).trans (rd2 n y hy j u hu)
        have HX := Lib.hid hx; clear hx
        have HY := Lib.hid hy; clear hy
        have q0 : wr.cell? ⟨b1, o1 + n * 2, none⟩ = some (.int .i64 x.from_) := hc1 0 _ rfl
        have q1 := hc1 1 _ rfl
        have p0 : wr.cell? ⟨b2, o2 + n * 2, none⟩ = some (.int .i64 y.from_) := hc2 0 _ rfl
        have p1 := hc2 1 _ rfl
        clear hc1 hc2 rd1 rd2 R1 R2
        have hne := fun w' => neqSpan x y w'
        by_cases hxy : x = y
        · have hd : decide (x = y) = true := decide_eq_true hxy
          have HE := Lib.hid hxy; clear hxy
          go_wp2
          go_quiet (fail)
          go_wp2
          go_roundw
          case rel => exact ⟨n + 1, by go_num, by omega, eqTo_succ hok HX.out HY.out HE.out, below_drewN hB _⟩
          case measure => simp [intOf]; omega
        · have hd : decide (x = y) = false := decide_eq_false hxy
          have HE := Lib.hid hxy; clear hxy
          go_wp2
          go_quiet (fail)
          go_wp2
          go_ret
          exact ⟨by rw [eqTo_bad HX.out HY.out HE.out]; rfl, below_drewN hB _⟩
      · obtain rfl : n = ys.length := by omega
        clear R1 R2
        go_wp2
        go_ret
        exact ⟨by rw [eqTo_all HL.out hok]; rfl, hB⟩
  · have hlb : ((xs.length : Int) != (ys.length : Int)) = true := by simp; omega
    have e : decide (xs = ys) = false := decide_eq_false fun h => hl (by rw [h])
    rw [e]
    clear r1 r2 e hl
    go_enter Tryz.func23, Tryz.ntmps23
    go_wp2
    go_ret
    exact ⟨rfl, Below.refl _ _⟩

set_option maxHeartbeats 2000000 in
/-- sameLives: two rows are read and compared. -/
theorem sameLives_any (v1 v2 : Value) (xs ys : List Life) (w : World) (h1 : Rd Life.cells 4 w v1 xs) (h2 : Rd Life.cells 4 w v2 ys) :
    Calls Tryz.prog 24 #[v1, v2] w fun e w' => e = .returned (.bool (decide (xs = ys))) ∧ Below w.heap.size w w' := by
  obtain ⟨n1, a1, c1, rfl, r1⟩ := h1
  obtain ⟨n2, a2, c2, rfl, r2⟩ := h2
  by_cases hl : xs.length = ys.length
  · have hlb : ((xs.length : Int) != (ys.length : Int)) = false := by rw [hl]; simp
    have hlc : ((ys.length : Int) != (ys.length : Int)) = false := by simp
    rw [hl] at hlb ⊢
    have HL := Lib.hid hl
    have m1 : xs.length ≤ ys.length := by omega
    have m2 : ys.length ≤ xs.length := by omega
    clear hl n1
    have R1 := Lib.hid r1
    have R2 := Lib.hid r2
    clear r1 r2
    go_enter Tryz.func24, Tryz.ntmps24
    go_wp2
    go_loopw [13] (fun i W => ∃ n : Nat, i = .int .i64 n ∧ n ≤ ys.length ∧ eqTo xs ys n ∧ Below w.heap.size w W) (fun i _ => ys.length - (intOf i).toNat)
    case atStart => exact ⟨0, rfl, by omega, eqTo_zero _ _, Below.refl _ _⟩
    case round =>
      obtain ⟨n, rfl, hnl, hok, hB⟩ := hrel
      by_cases hlt' : n < ys.length
      · obtain ⟨b1, o1, rfl, hb1, rd1⟩ := R1.out (by omega)
        obtain ⟨b2, o2, rfl, hb2, rd2⟩ := R2.out (by omega)
        have hx := List.getElem?_eq_getElem (show n < xs.length by omega)
        have hy := List.getElem?_eq_getElem (show n < ys.length by omega)
        generalize xs[n] = x at hx
        generalize ys[n] = y at hy
        have hc1 : ∀ j u, x.cells[j]? = some u → wr.cell? ⟨b1, o1 + n * 4 + j, none⟩ = some u := fun j u hu => (hB.cell (p := ⟨b1, _, none⟩) hb1).trans (rd1 n x hx j u hu)
        have hc2 : ∀ j u, y.cells[j]? = some u → wr.cell? ⟨b2, o2 + n * 4 + j, none⟩ = some u := fun j u hu => (hB.cell (p := ⟨b2, _, none⟩) hb2).trans (rd2 n y hy j u hu)
        have HX := Lib.hid hx; clear hx
        have HY := Lib.hid hy; clear hy
        have q0 : wr.cell? ⟨b1, o1 + n * 4, none⟩ = some (.int .i64 x.from_) := hc1 0 _ rfl
        have q1 := hc1 1 _ rfl
        have q2 := hc1 2 _ rfl
        have q3 := hc1 3 _ rfl
        have p0 : wr.cell? ⟨b2, o2 + n * 4, none⟩ = some (.int .i64 y.from_) := hc2 0 _ rfl
        have p1 := hc2 1 _ rfl
        have p2 := hc2 2 _ rfl
        have p3 := hc2 3 _ rfl
        clear hc1 hc2 rd1 rd2 R1 R2
        have hne := fun w' => neqLife x y w'
        by_cases hxy : x = y
        · have hd : decide (x = y) = true := decide_eq_true hxy
          have HE := Lib.hid hxy; clear hxy
          go_wp2
          go_quiet (fail)
          go_wp2
          go_roundw
          case rel => exact ⟨n + 1, by go_num, by omega, eqTo_succ hok HX.out HY.out HE.out, below_drewN hB _⟩
          case measure => simp [intOf]; omega
        · have hd : decide (x = y) = false := decide_eq_false hxy
          have HE := Lib.hid hxy; clear hxy
          go_wp2
          go_quiet (fail)
          go_wp2
          go_ret
          exact ⟨by rw [eqTo_bad HX.out HY.out HE.out]; rfl, below_drewN hB _⟩
      · obtain rfl : n = ys.length := by omega
        clear R1 R2
        go_wp2
        go_ret
        exact ⟨by rw [eqTo_all HL.out hok]; rfl, hB⟩
  · have hlb : ((xs.length : Int) != (ys.length : Int)) = true := by simp; omega
    have e : decide (xs = ys) = false := decide_eq_false fun h => hl (by rw [h])
    rw [e]
    clear r1 r2 e hl
    go_enter Tryz.func24, Tryz.ntmps24
    go_wp2
    go_ret
    exact ⟨rfl, Below.refl _ _⟩

end Go.Proofs.YtkoeplbkeboklaaGreat
/- The plain side of retro: what is there in a line at a time. No program in sight. -/
set_option linter.unusedVariables false
set_option linter.unusedSimpArgs false
namespace Go.Proofs.YtkoeplbkeboklaaGreat
def stepT (k t : Int) (th : List Held) (s : Step) : List Held := if s.at_ ≤ t then (doP k th s).1 else th
def runP (k t : Int) (l : List Step) : List Held := l.foldl (stepT k t) []
def pairH (h : Held) : Pair := ⟨h.key, h.val⟩
def thereP (k : Int) (l : List Step) (t : Int) : List Pair := (runP k t l).map pairH
theorem runP_snoc (k t : Int) (l : List Step) (s : Step) : runP k t (l ++ [s]) = stepT k t (runP k t l) s := by simp [runP, List.foldl_append]
theorem runP_take {k t : Int} {l : List Step} {n : Nat} {s : Step} (h : l[n]? = some s) : runP k t (l.take (n + 1)) = stepT k t (runP k t (l.take n)) s := by
  rw [List.take_add_one, h]; exact runP_snoc _ _ _ _
theorem insH_length (h : Held) : ∀ l : List Held, (insH h l).length = l.length + 1
  | [] => rfl
  | x :: l => by simp only [insH]; split <;> simp [insH_length h l]
theorem doP_length (k : Int) (th : List Held) (s : Step) : (doP k th s).1.length ≤ th.length + 1 := by
  unfold doP stackDo queueDo mapDo
  split
  · split
    · simp
    · split <;> simp
      omega
  · split
    · split
      · simp
      · split <;> simp
        omega
    · have := List.length_filter_le (fun h : Held => h.key != s.key) th
      dsimp only
      split
      · rw [insH_length]; omega
      · omega
theorem runP_length (k t : Int) (l : List Step) (n : Nat) : (runP k t (l.take n)).length ≤ n := by
  induction n with
  | zero => simp [runP]
  | succ n ih =>
    cases h : l[n]? with
    | none => rw [List.take_add_one, h]; simp; omega
    | some s =>
      rw [runP_take h]
      have := doP_length k (runP k t (l.take n)) s
      unfold stepT
      split <;> omega
/-- The keys increase. -/
def sortH (l : List Held) : Prop := l.Pairwise fun a b => a.key < b.key
theorem insH_mem {h : Held} : ∀ {l : List Held} {x : Held}, x ∈ insH h l → x = h ∨ x ∈ l
  | [], x, hx => by simp [insH] at hx; exact .inl hx
  | y :: l, x, hx => by
    simp only [insH] at hx
    split at hx
    · rcases List.mem_cons.1 hx with h | h
      · exact .inl h
      · exact .inr h
    · rcases List.mem_cons.1 hx with h | h
      · exact .inr (by rw [h]; simp)
      · rcases insH_mem h with h | h
        · exact .inl h
        · exact .inr (List.mem_cons_of_mem _ h)
theorem insH_sort {h : Held} : ∀ {l : List Held}, sortH l → (∀ x ∈ l, x.key ≠ h.key) → sortH (insH h l)
  | [], _, _ => by simp [insH, sortH]
  | y :: l, hs, hn => by
    obtain ⟨h1, h2⟩ := List.pairwise_cons.1 hs
    simp only [insH]
    split
    · rename_i hlt
      refine List.pairwise_cons.2 ⟨fun x hx => ?_, hs⟩
      rcases List.mem_cons.1 hx with rfl | hx
      · exact hlt
      · have := h1 x hx; omega
    · rename_i hlt
      have hne := hn y (by simp)
      refine List.pairwise_cons.2 ⟨fun x hx => ?_, insH_sort h2 fun x hx => hn x (by simp [hx])⟩
      rcases insH_mem hx with rfl | hx
      · omega
      · exact h1 x hx
theorem mapDo_sort {th : List Held} (s : Step) (h : sortH th) : sortH (mapDo th s).1 := by
  have hf : sortH (th.filter fun h => h.key != s.key) := h.filter _
  unfold mapDo
  dsimp only
  split
  · exact insH_sort hf fun x hx => by simpa [heldOf] using (List.mem_filter.1 hx).2
  · exact hf
theorem runP_sort {k t : Int} (h1 : k ≠ 1) (h2 : k ≠ 2) (l : List Step) : sortH (runP k t l) := by
  suffices ∀ th, sortH th → sortH (l.foldl (stepT k t) th) from this [] List.Pairwise.nil
  induction l with
  | nil => exact fun _ h => h
  | cons s l ih =>
    intro th h
    refine ih _ ?_
    unfold stepT
    split
    · rw [show doP k th s = mapDo th s by simp [doP, h1, h2]]; exact mapDo_sort s h
    · exact h
end Go.Proofs.YtkoeplbkeboklaaGreat
/- retro: what is there, as a list. -/
set_option linter.unusedVariables false
set_option linter.unusedSimpArgs false
namespace Go.Proofs.YtkoeplbkeboklaaGreat
open Go.RowKit

theorem pair_len (x : Pair) : x.cells.length = 2 := rfl
theorem info_pair : (Tryz.prog.info? 39).map (fun i => (i.zero, i.size, i.bytes)) = some (some (.agg #[.int .i64 0, .int .i64 0]), 2, 16) := by kernel_rfl
theorem ta_stack_stack (a : Addr) (w : World) : (Instr.typeAssert (.iface 104 (.pointer (some a))) 80 104 true).run Tryz.prog w = .ok (.tuple #[.pointer (some a), .bool true]) w := by kernel_rfl
theorem ta_stack_queue (a : Addr) (w : World) : (Instr.typeAssert (.iface 104 (.pointer (some a))) 80 108 true).run Tryz.prog w = .ok (.tuple #[.pointer none, .bool false]) w := by kernel_rfl
theorem ta_stack_table (a : Addr) (w : World) : (Instr.typeAssert (.iface 104 (.pointer (some a))) 80 111 true).run Tryz.prog w = .ok (.tuple #[.map none, .bool false]) w := by kernel_rfl
theorem ta_queue_stack (a : Addr) (w : World) : (Instr.typeAssert (.iface 108 (.pointer (some a))) 80 104 true).run Tryz.prog w = .ok (.tuple #[.pointer none, .bool false]) w := by kernel_rfl
theorem ta_queue_queue (a : Addr) (w : World) : (Instr.typeAssert (.iface 108 (.pointer (some a))) 80 108 true).run Tryz.prog w = .ok (.tuple #[.pointer (some a), .bool true]) w := by kernel_rfl
theorem ta_queue_table (a : Addr) (w : World) : (Instr.typeAssert (.iface 108 (.pointer (some a))) 80 111 true).run Tryz.prog w = .ok (.tuple #[.map none, .bool false]) w := by kernel_rfl
theorem ta_table_stack (a : Option Nat) (w : World) : (Instr.typeAssert (.iface 111 (.map a)) 80 104 true).run Tryz.prog w = .ok (.tuple #[.pointer none, .bool false]) w := by kernel_rfl
theorem ta_table_queue (a : Option Nat) (w : World) : (Instr.typeAssert (.iface 111 (.map a)) 80 108 true).run Tryz.prog w = .ok (.tuple #[.pointer none, .bool false]) w := by kernel_rfl
theorem ta_table_table (a : Option Nat) (w : World) : (Instr.typeAssert (.iface 111 (.map a)) 80 111 true).run Tryz.prog w = .ok (.tuple #[.map a, .bool true]) w := by kernel_rfl
set_option maxHeartbeats 2000000 in
theorem listed_stack (B : Nat) (S : Nat → Prop) (th : List Held) (w : World) (hl : ListAt 107 w S B th) (hS : ∀ i, S i → i < w.heap.size) (hth : th.length < 1000000) :
    Calls Tryz.prog 37 #[.iface 104 (.pointer (some ⟨B, 0, none⟩))] w fun e w' => ∃ v, e = .returned v ∧ Win Pair.cells 2 39 w' v (fun i => w.heap.size ≤ i) (th.map pairH) ∧ Below w.heap.size w w' := by
    obtain ⟨hSB, v, hB, hW⟩ := hl
    have hrd := win_rd held_len hW
    obtain ⟨a, c, rfl, hnc, hnm⟩ := winC_slice hW
    have hc : w.cell? ⟨B, 0, none⟩ = some (.slice a th.length c) := by rw [cell_of_row w B 0 _ _ _ hB]; rfl
    have HRD := Lib.hid hrd
    have HBL := Lib.hid (Below.refl w.heap.size w)
    clear hB hW hrd hS
    have t1 := ta_stack_stack
    go_enter Tryz.func37, Tryz.ntmps37
    go_wp2
    go_loopw [44, 9] (fun i v W => ∃ (n : Nat) (a1 : Option Addr) (c1 : Nat), i = .int .i64 n ∧ v = .slice a1 n c1 ∧ n ≤ th.length ∧ Win Pair.cells 2 39 W (.slice a1 n c1) (fun j => w.heap.size ≤ j ∧ some j ≠ (Value.slice a th.length c).ownBlock) ((th.take n).map pairH) ∧ Rd Held.cells 3 W (.slice a th.length c) th ∧ Below w.heap.size w W) (fun i _ _ => th.length - (intOf i).toNat)
    case atStart => exact ⟨0, none, 0, rfl, rfl, by omega, winC_nil 2 39 _ _, HRD.out, HBL.out⟩
    case round =>
      obtain ⟨n, a1, c1, rfl, rfl, hnl, hwin, hrd, hB⟩ := hrel
      by_cases hlt' : n < th.length
      · have hx := List.getElem?_eq_getElem hlt'
        generalize th[n] = h at hx
        obtain ⟨b, off, rfl, hbl, hc⟩ := rd_at hrd hx
        have q0 : wr.cell? ⟨b, off + n * 3, none⟩ = some (.int .i64 h.key) := hc 0 _ rfl
        have q1 := hc 1 _ rfl
        have q2 := hc 2 _ rfl
        clear hc
        have hn1 : ((th.take n).map pairH).length = n := by simp; omega
        have hW1 : WinC 2 39 wr (.slice a1 n c1) (fun j => (w.heap.size ≤ j ∧ some j ≠ (Value.slice (some ⟨b, off, none⟩) th.length c).ownBlock) ∧ j < wr.heap.size) n (((th.take n).map pairH).flatMap Pair.cells) := by
          have := winC_mono (winC_block hwin) (T := fun j => (w.heap.size ≤ j ∧ some j ≠ (Value.slice (some ⟨b, off, none⟩) th.length c).ownBlock) ∧ j < wr.heap.size) fun i hi => hi.2
          rwa [hn1] at this
        have hW2 := fun o1 o2 => winC_move hW1 (fr_of_below (S := fun _ => False) (((Below.refl wr.heap.size wr).alloc (Nat.le_refl _) o1).alloc (by simp) o2)) (fun _ _ h => h)
        have HX := Lib.hid (And.intro hx (And.intro hn1 (And.intro hW1 (And.intro hrd hwin))))
        have HW2 := Lib.hid hW2
        clear hx hn1 hW1 hrd hwin hW2
        go_wp2_with (at_builtin; (refine wpList_append_win _ (by rfl) _ _ _ (by rfl) 39 2 16 _ Tryz.underlying33 info_pair rfl (by decide) _ _ n _ (by rfl) (HW2.out _ _) _ _ _ [.int .i64 h.key, .int .i64 h.val] (by rfl) (by rfl) (news2 wr _ _ _) (by simp [Value.oneCell']) (by decide) (by unfold maxLen; omega) (by omega) ?_); intro v1 w1 hwin1 hfr1 hsz1; obtain ⟨a2, c2, rfl, hc2, hm2⟩ := winC_slice hwin1)
        have hb1 : Below wr.heap.size wr ((wr.alloc (.cells #[.int .i64 h.key, .int .i64 h.val, .int .i64 h.from_] 58)).alloc (.cells #[.int .i64 h.key, .int .i64 h.val] 39)) := ((Below.refl wr.heap.size wr).alloc (Nat.le_refl _) _).alloc (by simp) _
        have hob : ∀ i, some i = (Value.slice a1 n c1).ownBlock → w.heap.size ≤ i ∧ some i ≠ (Value.slice (some ⟨b, off, none⟩) th.length c).ownBlock := fun i hi => (winC_ob HX.out.2.2.1 i hi).1.1
        have hF : Fr (fun i => some i = (Value.slice a1 n c1).ownBlock) wr w1 := fr_trans (fr_of_below hb1) hfr1 fun _ _ h => h
        go_roundw
        case rel =>
          refine ⟨n + 1, a2, c2, by go_num, rfl, by omega, ?_, rd_move HX.out.2.2.2.1 hF (fun i hi h => (hob i h).2 hi), ?_⟩
          · have e1 : ((th.take (n + 1)).map pairH) = (th.take n).map pairH ++ [pairH h] := by rw [List.take_add_one, HX.out.1]; simp
            refine (?_ : WinC _ _ _ _ _ _ _)
            rw [e1, List.length_append, HX.out.2.1, List.flatMap_append]
            exact winC_mono hwin1 fun i hi => by
              have hs := hB.size
              rcases hi with hi | hi
              · exact hi.1.1
              · simp at hi
                refine ⟨by omega, fun e => ?_⟩
                have : i = b := by simpa [Value.ownBlock] using e
                omega
          · exact hB.trans (below_of_fr hF hB.size fun i hi => (hob i hi).1)
        case measure => simp [intOf]; omega
      · obtain rfl : n = th.length := by omega
        go_wp2
        go_ret
        refine ⟨_, rfl, ?_, hB⟩
        rw [List.take_length] at hwin
        exact winC_mono hwin fun i hi => hi.1

set_option maxHeartbeats 2000000 in
theorem listed_queue (B : Nat) (S : Nat → Prop) (th : List Held) (w : World) (hl : ListAt 109 w S B th) (hS : ∀ i, S i → i < w.heap.size) (hth : th.length < 1000000) :
    Calls Tryz.prog 37 #[.iface 108 (.pointer (some ⟨B, 0, none⟩))] w fun e w' => ∃ v, e = .returned v ∧ Win Pair.cells 2 39 w' v (fun i => w.heap.size ≤ i) (th.map pairH) ∧ Below w.heap.size w w' := by
    obtain ⟨hSB, v, hB, hW⟩ := hl
    have hrd := win_rd held_len hW
    obtain ⟨a, c, rfl, hnc, hnm⟩ := winC_slice hW
    have hc : w.cell? ⟨B, 0, none⟩ = some (.slice a th.length c) := by rw [cell_of_row w B 0 _ _ _ hB]; rfl
    have HRD := Lib.hid hrd
    have HBL := Lib.hid (Below.refl w.heap.size w)
    clear hB hW hrd hS
    have t1 := ta_queue_stack
    have t2 := ta_queue_queue
    go_enter Tryz.func37, Tryz.ntmps37
    go_wp2
    go_loopw [44, 9] (fun i v W => ∃ (n : Nat) (a1 : Option Addr) (c1 : Nat), i = .int .i64 n ∧ v = .slice a1 n c1 ∧ n ≤ th.length ∧ Win Pair.cells 2 39 W (.slice a1 n c1) (fun j => w.heap.size ≤ j ∧ some j ≠ (Value.slice a th.length c).ownBlock) ((th.take n).map pairH) ∧ Rd Held.cells 3 W (.slice a th.length c) th ∧ Below w.heap.size w W) (fun i _ _ => th.length - (intOf i).toNat)
    case atStart => exact ⟨0, none, 0, rfl, rfl, by omega, winC_nil 2 39 _ _, HRD.out, HBL.out⟩
    case round =>
      obtain ⟨n, a1, c1, rfl, rfl, hnl, hwin, hrd, hB⟩ := hrel
      by_cases hlt' : n < th.length
      · have hx := List.getElem?_eq_getElem hlt'
        generalize th[n] = h at hx
        obtain ⟨b, off, rfl, hbl, hc⟩ := rd_at hrd hx
        have q0 : wr.cell? ⟨b, off + n * 3, none⟩ = some (.int .i64 h.key) := hc 0 _ rfl
        have q1 := hc 1 _ rfl
        have q2 := hc 2 _ rfl
        clear hc
        have hn1 : ((th.take n).map pairH).length = n := by simp; omega
        have hW1 : WinC 2 39 wr (.slice a1 n c1) (fun j => (w.heap.size ≤ j ∧ some j ≠ (Value.slice (some ⟨b, off, none⟩) th.length c).ownBlock) ∧ j < wr.heap.size) n (((th.take n).map pairH).flatMap Pair.cells) := by
          have := winC_mono (winC_block hwin) (T := fun j => (w.heap.size ≤ j ∧ some j ≠ (Value.slice (some ⟨b, off, none⟩) th.length c).ownBlock) ∧ j < wr.heap.size) fun i hi => hi.2
          rwa [hn1] at this
        have hW2 := fun o1 o2 => winC_move hW1 (fr_of_below (S := fun _ => False) (((Below.refl wr.heap.size wr).alloc (Nat.le_refl _) o1).alloc (by simp) o2)) (fun _ _ h => h)
        have HX := Lib.hid (And.intro hx (And.intro hn1 (And.intro hW1 (And.intro hrd hwin))))
        have HW2 := Lib.hid hW2
        clear hx hn1 hW1 hrd hwin hW2
        go_wp2_with (at_builtin; (refine wpList_append_win _ (by rfl) _ _ _ (by rfl) 39 2 16 _ Tryz.underlying33 info_pair rfl (by decide) _ _ n _ (by rfl) (HW2.out _ _) _ _ _ [.int .i64 h.key, .int .i64 h.val] (by rfl) (by rfl) (news2 wr _ _ _) (by simp [Value.oneCell']) (by decide) (by unfold maxLen; omega) (by omega) ?_); intro v1 w1 hwin1 hfr1 hsz1; obtain ⟨a2, c2, rfl, hc2, hm2⟩ := winC_slice hwin1)
        have hb1 : Below wr.heap.size wr ((wr.alloc (.cells #[.int .i64 h.key, .int .i64 h.val, .int .i64 h.from_] 58)).alloc (.cells #[.int .i64 h.key, .int .i64 h.val] 39)) := ((Below.refl wr.heap.size wr).alloc (Nat.le_refl _) _).alloc (by simp) _
        have hob : ∀ i, some i = (Value.slice a1 n c1).ownBlock → w.heap.size ≤ i ∧ some i ≠ (Value.slice (some ⟨b, off, none⟩) th.length c).ownBlock := fun i hi => (winC_ob HX.out.2.2.1 i hi).1.1
        have hF : Fr (fun i => some i = (Value.slice a1 n c1).ownBlock) wr w1 := fr_trans (fr_of_below hb1) hfr1 fun _ _ h => h
        go_roundw
        case rel =>
          refine ⟨n + 1, a2, c2, by go_num, rfl, by omega, ?_, rd_move HX.out.2.2.2.1 hF (fun i hi h => (hob i h).2 hi), ?_⟩
          · have e1 : ((th.take (n + 1)).map pairH) = (th.take n).map pairH ++ [pairH h] := by rw [List.take_add_one, HX.out.1]; simp
            refine (?_ : WinC _ _ _ _ _ _ _)
            rw [e1, List.length_append, HX.out.2.1, List.flatMap_append]
            exact winC_mono hwin1 fun i hi => by
              have hs := hB.size
              rcases hi with hi | hi
              · exact hi.1.1
              · simp at hi
                refine ⟨by omega, fun e => ?_⟩
                have : i = b := by simpa [Value.ownBlock] using e
                omega
          · exact hB.trans (below_of_fr hF hB.size fun i hi => (hob i hi).1)
        case measure => simp [intOf]; omega
      · obtain rfl : n = th.length := by omega
        go_wp2
        go_ret
        refine ⟨_, rfl, ?_, hB⟩
        rw [List.take_length] at hwin
        exact winC_mono hwin fun i hi => hi.1

end Go.Proofs.YtkoeplbkeboklaaGreat
/- The plain side of retro: what the reference does with a step, and that it is the same. No program in sight. -/
set_option linter.unusedVariables false
set_option linter.unusedSimpArgs false
namespace Go.Proofs.YtkoeplbkeboklaaGreat
/-- Where the first one with a key stands. -/
def keyAt (key : Int) : List Held → Nat → Option Nat
  | [], _ => none
  | h :: l, i => if h.key = key then some i else keyAt key l (i + 1)
def goneP (k : Int) (th : List Held) (s : Step) : Option Nat :=
  if k = 3 then keyAt s.key th 0 else if s.do_ = 1 ∨ th.length = 0 then none else if k = 1 then some (th.length - 1) else some 0
/-- How many there are, from the front, with smaller keys. -/
def smaller (key : Int) : List Held → Nat
  | [] => 0
  | h :: l => if h.key < key then smaller key l + 1 else 0
theorem keyAt_spec (key : Int) : ∀ (l : List Held) (i : Nat), (keyAt key l i = none ∧ ∀ h ∈ l, h.key ≠ key) ∨ ∃ j h, keyAt key l i = some (i + j) ∧ l[j]? = some h ∧ h.key = key ∧ ∀ q y, q < j → l[q]? = some y → y.key ≠ key
  | [], i => .inl ⟨rfl, by simp⟩
  | h :: l, i => by
    by_cases e : h.key = key
    · exact .inr ⟨0, h, by simp [keyAt, e], rfl, e, fun q y hq => by omega⟩
    · rcases keyAt_spec key l (i + 1) with ⟨h1, h2⟩ | ⟨j, x, h1, h2, h3, h4⟩
      · refine .inl ⟨by simp [keyAt, e, h1], fun y hy => ?_⟩
        rcases List.mem_cons.1 hy with rfl | hy
        · exact e
        · exact h2 y hy
      · refine .inr ⟨j + 1, x, by simp [keyAt, e, h1]; omega, by simpa using h2, h3, fun q y hq hy => ?_⟩
        cases q with
        | zero => simp at hy; exact hy ▸ e
        | succ q => exact h4 q y (by omega) (by simpa using hy)
theorem find_at {key : Int} : ∀ {l : List Held} {j : Nat} {h : Held}, l[j]? = some h → h.key = key → (∀ q y, q < j → l[q]? = some y → y.key ≠ key) → l.find? (fun x => x.key == key) = some h
  | [], j, h, hj, _, _ => by simp at hj
  | x :: l, 0, h, hj, he, _ => by
    simp only [List.getElem?_cons_zero, Option.some.injEq] at hj
    subst hj
    simp [he]
  | x :: l, j + 1, h, hj, he, hn => by
    have h0 := hn 0 x (by omega) rfl
    rw [List.find?_cons]
    have : (x.key == key) = false := by simpa using h0
    rw [this]
    exact find_at (by simpa using hj) he fun q y hq hy => hn (q + 1) y (by omega) (by simpa using hy)
theorem filter_at {key : Int} {l : List Held} {j : Nat} {h : Held} (hs : sortH l) (hj : l[j]? = some h) (he : h.key = key) : (l.filter fun x => x.key != key) = l.take j ++ l.drop (j + 1) := by
  obtain ⟨hlt, rfl⟩ := List.getElem?_eq_some_iff.1 hj
  have hl : l = l.take j ++ l[j] :: l.drop (j + 1) := by rw [List.getElem_cons_drop, List.take_append_drop]
  have h1 : ∀ x ∈ l.take j, x.key < key := by
    intro x hx
    obtain ⟨i, hi, rfl⟩ := List.getElem_of_mem hx
    rw [List.getElem_take]
    rw [List.length_take] at hi
    rw [← he]
    exact List.pairwise_iff_getElem.1 hs i j (by omega) hlt (by omega)
  have h2 : ∀ x ∈ l.drop (j + 1), key < x.key := by
    intro x hx
    obtain ⟨i, hi, rfl⟩ := List.getElem_of_mem hx
    rw [List.getElem_drop]
    rw [List.length_drop] at hi
    rw [← he]
    exact List.pairwise_iff_getElem.1 hs j (j + 1 + i) hlt (by omega) (by omega)
  have e : (l.filter fun x => x.key != key) = ((l.take j ++ l[j] :: l.drop (j + 1)).filter fun x => x.key != key) := by rw [← hl]
  rw [e, List.filter_append, List.filter_cons]
  have e3 : (l[j].key != key) = false := by simpa using he
  rw [e3]
  simp only [Bool.false_eq_true, if_false]
  congr 1
  · exact List.filter_eq_self.2 fun x hx => by have := h1 x hx; simp; omega
  · exact List.filter_eq_self.2 fun x hx => by have := h2 x hx; simp; omega
theorem smaller_le (key : Int) : ∀ l : List Held, smaller key l ≤ l.length
  | [] => by simp [smaller]
  | h :: l => by simp only [smaller]; split <;> simp; exact smaller_le key l
theorem smaller_lt {key : Int} : ∀ {l : List Held} {i : Nat} {h : Held}, i < smaller key l → l[i]? = some h → h.key < key
  | [], i, h, hi, _ => by simp [smaller] at hi
  | x :: l, i, h, hi, hx => by
    simp only [smaller] at hi
    split at hi
    · rename_i hlt
      cases i with
      | zero => simp at hx; exact hx ▸ hlt
      | succ i => exact smaller_lt (l := l) (i := i) (by omega) (by simpa using hx)
    · omega
theorem smaller_at {key : Int} : ∀ {l : List Held} {h : Held}, l[smaller key l]? = some h → ¬ h.key < key
  | [], h, hx => by simp at hx
  | x :: l, h, hx => by
    simp only [smaller] at hx
    split at hx
    · exact smaller_at (by simpa using hx)
    · simp at hx; subst hx; assumption
theorem insH_at (h : Held) : ∀ {l : List Held}, (∀ x ∈ l, x.key ≠ h.key) → insH h l = l.take (smaller h.key l) ++ h :: l.drop (smaller h.key l)
  | [], _ => by simp [insH, smaller]
  | x :: l, hn => by
    have hx := hn x (by simp)
    simp only [insH, smaller]
    by_cases hlt : x.key < h.key
    · rw [if_neg (by omega), if_pos hlt, List.take_succ_cons, List.drop_succ_cons, List.cons_append, insH_at h fun y hy => hn y (by simp [hy])]
    · rw [if_pos (by omega), if_neg hlt]; simp
/-- What is left when what is gone is taken out, and when it came. -/
def restP (g : Option Nat) (th : List Held) : List Held := match g with | none => th | some j => th.take j ++ th.drop (j + 1)
def fromP (g : Option Nat) (th : List Held) : Int := match g with | none => -1 | some j => (th.getD j noneH).from_
def placeP (k : Int) (s : Step) (r : List Held) : Nat := if k = 3 then smaller s.key r else r.length
theorem goneP_lt {k : Int} {th : List Held} {s : Step} {j : Nat} (h : goneP k th s = some j) : j < th.length := by
  unfold goneP at h
  split at h
  · rcases keyAt_spec s.key th 0 with ⟨h1, _⟩ | ⟨q, x, h1, h2, _⟩
    · rw [h1] at h; cases h
    · rw [h1] at h
      have := (List.getElem?_eq_some_iff.1 h2).1
      injection h with h; omega
  · split at h
    · cases h
    · split at h <;> injection h with h <;> omega
theorem doP_ref {k : Int} {th : List Held} {s : Step} (hk : 1 ≤ k ∧ k ≤ 3) (hd : s.do_ = 1 ∨ s.do_ = 2) (hs : k = 3 → sortH th) :
    (doP k th s).2.from_ = fromP (goneP k th s) th ∧
    (doP k th s).1 = if s.do_ = 2 then restP (goneP k th s) th else (restP (goneP k th s) th).take (placeP k s (restP (goneP k th s) th)) ++ heldOf s :: (restP (goneP k th s) th).drop (placeP k s (restP (goneP k th s) th)) := by
  by_cases h3 : k = 3
  · subst h3
    have hst := hs rfl
    rw [show doP 3 th s = mapDo th s by simp [doP]]
    have hg : goneP 3 th s = keyAt s.key th 0 := by simp [goneP]
    rw [hg]
    have hrest : restP (keyAt s.key th 0) th = th.filter fun h => h.key != s.key := by
      rcases keyAt_spec s.key th 0 with ⟨h1, h2⟩ | ⟨j, x, h1, h2, h3, h4⟩
      · rw [h1]
        exact (List.filter_eq_self.2 fun x hx => by simpa using h2 x hx).symm
      · rw [h1, Nat.zero_add]
        exact (filter_at hst h2 h3).symm
    have hfrom : ((th.find? fun h => h.key == s.key).getD noneH).from_ = fromP (keyAt s.key th 0) th := by
      rcases keyAt_spec s.key th 0 with ⟨h1, h2⟩ | ⟨j, x, h1, h2, h3, h4⟩
      · rw [h1, show (th.find? fun h => h.key == s.key) = none from List.find?_eq_none.2 fun x hx => by simpa using h2 x hx]
        rfl
      · rw [h1, find_at h2 h3 h4, Nat.zero_add]
        simp [fromP, List.getD_eq_getElem?_getD, h2]
    refine ⟨hfrom, ?_⟩
    rw [hrest]
    unfold mapDo
    dsimp only
    rcases hd with hd | hd
    · rw [if_pos hd, if_neg (by omega)]
      have := insH_at (heldOf s) (l := th.filter fun h => h.key != s.key) fun x hx => by simpa [heldOf] using (List.mem_filter.1 hx).2
      rw [this]
      simp [placeP, heldOf]
    · rw [if_neg (by omega), if_pos hd]
  · have hpl : ∀ r : List Held, placeP k s r = r.length := fun r => by simp [placeP, h3]
    simp only [hpl, List.take_length, List.drop_length]
    rcases hd with hd | hd
    · have hg : goneP k th s = none := by simp [goneP, h3, hd]
      rw [hg, if_neg (by omega)]
      by_cases h1 : k = 1
      · simp [doP, h1, stackDo, hd, restP, fromP, noneH]
      · have h2 : k = 2 := by omega
        simp [doP, h2, queueDo, hd, restP, fromP, noneH]
    · have hd1 : ¬ s.do_ = 1 := by omega
      rw [if_pos hd]
      by_cases h0 : th.length = 0
      · obtain rfl : th = [] := List.eq_nil_of_length_eq_zero h0
        have hg : goneP k [] s = none := by simp [goneP, h3]
        rw [hg]
        by_cases h1 : k = 1
        · simp [doP, h1, stackDo, hd1, restP, fromP, noneH]
        · have h2 : k = 2 := by omega
          simp [doP, h2, queueDo, hd1, restP, fromP, noneH]
      · by_cases h1 : k = 1
        · have hg : goneP k th s = some (th.length - 1) := by simp [goneP, h3, hd1, h0, h1]
          rw [hg]
          rcases List.eq_nil_or_concat th with rfl | ⟨l, x, rfl⟩
          · simp at h0
          · rw [List.concat_eq_append] at *
            simp [doP, h1, stackDo, hd1, restP, fromP, List.getD_eq_getElem?_getD]
        · have h2 : k = 2 := by omega
          have hg : goneP k th s = some 0 := by simp [goneP, h3, hd1, h0, h1]
          rw [hg]
          cases th with
          | nil => simp at h0
          | cons x l => simp [doP, h2, queueDo, hd1, restP, fromP]
end Go.Proofs.YtkoeplbkeboklaaGreat
/- An append of a row that is read (nil, empty or not) to a window. -/
set_option linter.unusedVariables false
set_option linter.unusedSimpArgs false
namespace Go.Proofs.YtkoeplbkeboklaaGreat
open Go.RowKit
/-- n elements of k cells each, read one behind the other. -/
def RdC (k : Nat) (w : World) (v : Value) (n : Nat) (cs : List Value) : Prop :=
  cs.length = n * k ∧ (∀ u ∈ cs, u.oneCell' = true) ∧ ∃ a c, v = .slice a n c ∧ (0 < n → ∃ b off, a = some ⟨b, off, none⟩ ∧ b < w.heap.size ∧ ∀ j u, cs[j]? = some u → w.cell? ⟨b, off + j, none⟩ = some u)
theorem rdC_move {k n : Nat} {w W : World} {v : Value} {cs : List Value} {S : Nat → Prop} (h : RdC k w v n cs) (hf : Fr S w W) (hS : ∀ i, some i = v.ownBlock → ¬ S i) : RdC k W v n cs := by
  obtain ⟨h0, h1, a, c, rfl, h⟩ := h
  refine ⟨h0, h1, a, c, rfl, fun hl => ?_⟩
  obtain ⟨b, off, rfl, hlt, hr⟩ := h hl
  exact ⟨b, off, rfl, Nat.lt_of_lt_of_le hlt hf.size, fun j u hu => fr_cell hf (hr j u hu) (hS b rfl)⟩
theorem rdC_below {k n : Nat} {w W : World} {v : Value} {cs : List Value} (h : RdC k w v n cs) (hf : Below w.heap.size w W) : RdC k W v n cs := rdC_move h (fr_of_below (S := fun _ => False) hf) fun _ _ h => h
theorem flat_at {α : Type} {enc : α → List Value} {k : Nat} (hk : ∀ x, (enc x).length = k) (hk0 : 0 < k) (xs : List α) (j : Nat) (u : Value) (h : (xs.flatMap enc)[j]? = some u) : ∃ i x, xs[i]? = some x ∧ ∃ r, r < k ∧ j = i * k + r ∧ (enc x)[r]? = some u := by
  induction xs generalizing j with
  | nil => simp at h
  | cons x xs ih =>
    rw [List.flatMap_cons] at h
    by_cases hj : j < k
    · rw [List.getElem?_append_left (by rw [hk]; exact hj)] at h
      exact ⟨0, x, rfl, j, hj, by simp, h⟩
    · rw [List.getElem?_append_right (by rw [hk]; omega), hk] at h
      obtain ⟨i, y, hy, r, hr, he, hu⟩ := ih (j - k) h
      exact ⟨i + 1, y, by simpa using hy, r, hr, by rw [Nat.add_mul, Nat.one_mul]; omega, hu⟩
theorem rdC_of_rd {α : Type} {enc : α → List Value} {k : Nat} (hk : ∀ x, (enc x).length = k) (hk0 : 0 < k) (h1 : ∀ x, ∀ u ∈ enc x, u.oneCell' = true) {w : World} {v : Value} {xs : List α} (h : Rd enc k w v xs) : RdC k w v xs.length (xs.flatMap enc) := by
  obtain ⟨h0, a, c, rfl, h⟩ := h
  refine ⟨flat_len hk xs, fun u hu => ?_, a, c, rfl, fun hl => ?_⟩
  · obtain ⟨x, _, hx⟩ := List.mem_flatMap.1 hu
    exact h1 x u hx
  obtain ⟨b, off, rfl, hlt, hr⟩ := h hl
  refine ⟨b, off, rfl, hlt, fun j u hu => ?_⟩
  obtain ⟨i, x, hx, r, _, rfl, hu'⟩ := flat_at hk hk0 xs j u hu
  rw [← Nat.add_assoc]
  exact hr i x hx r u hu'
/-- A cut of what is read. -/
theorem rd_cut {α : Type} {enc : α → List Value} {k : Nat} {w : World} {b off n c : Nat} {xs : List α} (h : Rd enc k w (.slice (some ⟨b, off, none⟩) n c) xs) (lo hi : Nat) (hlo : lo ≤ hi) (hhi : hi ≤ xs.length) (off' c' : Nat) (ho : lo < hi → off' = off + lo * k) :
    Rd enc k w (.slice (some ⟨b, off', none⟩) (hi - lo) c') ((xs.drop lo).take (hi - lo)) := by
  obtain ⟨h0, a', c1, he, h⟩ := h
  injection he with h1 h2 h3
  have hl : ((xs.drop lo).take (hi - lo)).length = hi - lo := by simp; omega
  refine ⟨by omega, some ⟨b, off', none⟩, c', by rw [hl], fun hpos => ?_⟩
  rw [hl] at hpos
  obtain ⟨b2, off2, e2, hlt, hr⟩ := h (by omega)
  rw [← h1] at e2
  injection e2 with e2
  injection e2 with e3 e4
  subst e3; subst e4
  refine ⟨b, off', rfl, hlt, fun i x hx j u hu => ?_⟩
  have hi' : i < hi - lo := by have := (List.getElem?_eq_some_iff.1 hx).1; omega
  rw [List.getElem?_take, if_pos hi', List.getElem?_drop] at hx
  have := hr (lo + i) x hx j u hu
  rw [ho (by omega), show off + lo * k + i * k + j = off + (lo + i) * k + j by rw [Nat.add_mul]; omega]
  exact this
section
variable {P : Program} (w : World)
theorem run_append_rd (t ty e : TypeId) (i : TypeInfo) (z : Value) (k bytes : Nat) (ht : P.underlying t = some (.slice e)) (hi : P.info? e = some i) (hz : i.zero = some z)
    (hsize : i.size = k) (hby : i.bytes = bytes) (hzs : z.cells.size = k) (hk : 0 < k)
    (v : Value) (S : Nat → Prop) (n : Nat) (xs : List Value) (hwin : WinC k e w v S n xs) (x : Value) (m : Nat) (news : List Value) (hx : RdC k w x m news)
    (h63 : n + m ≤ maxLen) (hbytes : (n + m) * bytes ≤ 140737488355328) :
    ∃ v' w', (Builtin.append_ #[t, t] ty #[v, x]).run P w = .ok v' w' ∧ WinC k e w' v' (fun i => (S i ∧ i < w.heap.size) ∨ i = w.heap.size) (n + m) (xs ++ news) ∧ Fr (fun i => some i = v.ownBlock) w w' ∧ w'.heap.size ≤ w.heap.size + 1 := by
  obtain ⟨hl, h1, a, c, rfl, hc⟩ := hx
  by_cases hm : 0 < m
  · obtain ⟨b, off, rfl, hlt, hc⟩ := hc hm
    exact run_append_win w t ty e i z k bytes ht hi hz hsize hby hzs hk v S n xs hwin ⟨b, off, none⟩ m c news hl (fun j u hu => by rw [addr_add]; exact hc j u hu) h1 hm h63 hbytes
  · obtain rfl : m = 0 := by omega
    have hn : news = [] := List.eq_nil_of_length_eq_zero (by simpa using hl)
    subst hn
    have hwin' : WinC k e w v (fun i => (S i ∧ i < w.heap.size) ∨ i = w.heap.size) (n + 0) (xs ++ []) := by
      rw [List.append_nil, Nat.add_zero]
      exact winC_mono (winC_block hwin) fun i hi => .inl ⟨hi.2.1, hi.2.2⟩
    refine ⟨v, w, ?_, hwin', fr_refl _ _, by omega⟩
    obtain ⟨a0, c0, rfl, hnc, _⟩ := winC_slice hwin
    have hfc : (Builtin.firstCells i.size 0 (.slice a 0 c)).run P w = .ok #[] w := by
      cases a <;> simp [Builtin.firstCells, loadCells, loadCellsFrom]
    cases a0 <;> simp [Builtin.append_, run_underlying ht, sizeOf, typeInfo, hi, Builtin.lenOf, hnc, hfc, Result.andThen, storeCells]
theorem wp_append_rd {o : Oper} {a : Act} {K : Act → World → Prop} {Q : Exit → Act → World → Prop} (s x : Operand) (t : TypeId)
    (ho : o.op = .call { callee := .builtin .append, args := #[s, x], argTypes := #[t, t] })
    (e : TypeId) (k bytes : Nat) (z : Value) (ht : P.underlying t = some (.slice e)) (hinfo : (P.info? e).map (fun i => (i.zero, i.size, i.bytes)) = some (some z, k, bytes)) (hzs : z.cells.size = k) (hk : 0 < k)
    (v : Value) (S : Nat → Prop) (n : Nat) (xs : List Value) (hs : a.eval s = v) (xv : Value) (hx : a.eval x = xv) (hwin : WinC k e w v S n xs) (m : Nat) (news : List Value) (hrd : RdC k w xv m news)
    (h63 : n + m ≤ maxLen) (hbytes : (n + m) * bytes ≤ 140737488355328)
    (h : ∀ v' w', WinC k e w' v' (fun i => (S i ∧ i < w.heap.size) ∨ i = w.heap.size) (n + m) (xs ++ news) → Fr (fun i => some i = v.ownBlock) w w' → w'.heap.size ≤ w.heap.size + 1 → K (a.put o.dst v') w') : o.wp P a w K Q := by
  obtain ⟨i, hi, hzz⟩ := Option.map_eq_some_iff.1 hinfo
  simp only [Prod.mk.injEq] at hzz
  obtain ⟨v', w', hr, h2, h3, h4⟩ := run_append_rd (P := P) w t o.type e i z k bytes ht hi hzz.1 hzz.2.1 hzz.2.2 hzs hk v S n xs hwin xv m news hrd h63 hbytes
  unfold Oper.wp execOp
  simp only [ho, resolve, invoke, builtin, Sem.run_bind, Sem.run_pure, Result.andThen_ok, List.map_toArray, List.map_cons, List.map_nil, hs, hx, hr]
  exact h v' w' h2 h3 h4
theorem wpList_append_rd {ops : Array Oper} {rest : List Oper} {o : Oper} {a : Act} {Q : Exit → Act → World → Prop} (hgd : o.guard = none) (s x : Operand) (t : TypeId)
    (ho : o.op = .call { callee := .builtin .append, args := #[s, x], argTypes := #[t, t] })
    (e : TypeId) (k bytes : Nat) (z : Value) (ht : P.underlying t = some (.slice e)) (hinfo : (P.info? e).map (fun i => (i.zero, i.size, i.bytes)) = some (some z, k, bytes)) (hzs : z.cells.size = k) (hk : 0 < k)
    (v : Value) (S : Nat → Prop) (n : Nat) (xs : List Value) (hs : a.eval s = v) (xv : Value) (hx : a.eval x = xv) (hwin : WinC k e w v S n xs) (m : Nat) (news : List Value) (hrd : RdC k w xv m news)
    (h63 : n + m ≤ maxLen) (hbytes : (n + m) * bytes ≤ 140737488355328)
    (h : ∀ v' w', WinC k e w' v' (fun i => (S i ∧ i < w.heap.size) ∨ i = w.heap.size) (n + m) (xs ++ news) → Fr (fun i => some i = v.ownBlock) w w' → w'.heap.size ≤ w.heap.size + 1 → wpList P ops Q rest (a.put o.dst v') w') : wpList P ops Q (o :: rest) a w :=
  wpList_plain hgd fun _ hK => wp_append_rd w s x t ho e k bytes z ht hinfo hzs hk v S n xs hs xv hx hwin m news hrd h63 hbytes fun v' w' h2 h3 h4 => hK _ _ (h v' w' h2 h3 h4)
theorem step_append_rd {ops : Array Oper} {o : Oper} {a : Act} {K : Act → World → Prop} {Q : Exit → Act → World → Prop} {E : Prop} (hgd : o.guard = none) (s x : Operand) (t : TypeId)
    (ho : o.op = .call { callee := .builtin .append, args := #[s, x], argTypes := #[t, t] })
    (e : TypeId) (k bytes : Nat) (z : Value) (ht : P.underlying t = some (.slice e)) (hinfo : (P.info? e).map (fun i => (i.zero, i.size, i.bytes)) = some (some z, k, bytes)) (hzs : z.cells.size = k) (hk : 0 < k)
    (v : Value) (S : Nat → Prop) (n : Nat) (xs : List Value) (hs : a.eval s = v) (xv : Value) (hx : a.eval x = xv) (hwin : WinC k e w v S n xs) (m : Nat) (news : List Value) (hrd : RdC k w xv m news)
    (h63 : n + m ≤ maxLen) (hbytes : (n + m) * bytes ≤ 140737488355328)
    (h : ∀ v' w', WinC k e w' v' (fun i => (S i ∧ i < w.heap.size) ∨ i = w.heap.size) (n + m) (xs ++ news) → Fr (fun i => some i = v.ownBlock) w w' → w'.heap.size ≤ w.heap.size + 1 → K (a.put o.dst v') w') :
    if Region.wanted o (yielded ops a.tmps) = true then Oper.wp P o a w K Q else E := by
  have hw : Region.wanted o (yielded ops a.tmps) = true := by simp [Region.wanted, hgd]
  rw [if_pos hw]
  exact wp_append_rd w s x t ho e k bytes z ht hinfo hzs hk v S n xs hs xv hx hwin m news hrd h63 hbytes h
end
end Go.Proofs.YtkoeplbkeboklaaGreat
/- The reference's gone and step: what a step takes away, and what is there behind it. -/
set_option linter.unusedVariables false
set_option linter.unusedSimpArgs false
namespace Go.Proofs.YtkoeplbkeboklaaGreat
open Go.RowKit
/-- A thing's cells: when it came, and its pair. -/
def Held.thing (s : Held) : List Value := [.int .i64 s.from_, .int .i64 s.key, .int .i64 s.val]
theorem thing_len (x : Held) : x.thing.length = 3 := rfl
theorem thing_one (x : Held) : ∀ u ∈ x.thing, u.oneCell' = true := by simp [Held.thing, Value.oneCell']
def placeI (g : Option Nat) : Int := match g with | none => -1 | some j => j
theorem keyAt_drop {key : Int} {l : List Held} {n : Nat} {x : Held} (hx : l[n]? = some x) : keyAt key (l.drop n) n = if x.key = key then some n else keyAt key (l.drop (n + 1)) (n + 1) := by
  obtain ⟨hlt, rfl⟩ := List.getElem?_eq_some_iff.1 hx
  rw [List.drop_eq_getElem_cons hlt, keyAt]
end Go.Proofs.YtkoeplbkeboklaaGreat
/- The reference's step: what is there behind it. -/
set_option linter.unusedVariables false
set_option linter.unusedSimpArgs false
namespace Go.Proofs.YtkoeplbkeboklaaGreat
open Go.RowKit
def stepR (g : Option Nat) (k : Int) (th : List Held) (s : Step) : List Held :=
  if s.do_ = 2 then restP g th else (restP g th).take (placeP k s (restP g th)) ++ heldOf s :: (restP g th).drop (placeP k s (restP g th))
theorem rdC_cut {α : Type} {enc : α → List Value} {k : Nat} (hk : ∀ x, (enc x).length = k) (hk0 : 0 < k) (h1 : ∀ x, ∀ u ∈ enc x, u.oneCell' = true) {w : World} {b off n c : Nat} {xs : List α} (h : Rd enc k w (.slice (some ⟨b, off, none⟩) n c) xs) (lo m : Nat) (hhi : lo + m ≤ xs.length) (off' c' : Nat) (ho : 0 < m → off' = off + lo * k) :
    RdC k w (.slice (some ⟨b, off', none⟩) m c') m (((xs.drop lo).take m).flatMap enc) := by
  have := rdC_of_rd hk hk0 h1 (rd_cut h lo (lo + m) (by omega) hhi off' c' (fun h => ho (by omega)))
  rw [show lo + m - lo = m by omega] at this
  have hl : ((xs.drop lo).take m).length = m := by simp; omega
  rwa [hl] at this
theorem rdC_new {k : Nat} (w : World) (cs : Array Value) (T c : Nat) (h : cs.size = k) (h1 : ∀ u ∈ cs.toList, u.oneCell' = true) : RdC k (w.alloc (.cells cs T)) (.slice (some ⟨w.heap.size, 0, none⟩) 1 c) 1 cs.toList :=
  ⟨by simp [h], h1, _, c, rfl, fun _ => ⟨_, _, rfl, by simp, fun j u hu => by have := news1 w cs T j u hu; rwa [addr_add] at this⟩⟩
theorem rdC_zero (k : Nat) (w : World) (a : Option Addr) (c : Nat) : RdC k w (.slice a 0 c) 0 [] := ⟨by simp, by simp, a, c, rfl, fun h => absurd h (by simp)⟩
theorem rest_len {j : Nat} {th : List Held} (h : j < th.length) : (restP (some j) th).length = j + (th.length - (j + 1)) := by simp [restP]; omega
theorem rest_flat {α : Type} {j : Nat} {th : List Held} (enc : Held → List α) : (restP (some j) th).flatMap enc = ((th.drop 0).take j).flatMap enc ++ ((th.drop (j + 1)).take (th.length - (j + 1))).flatMap enc := by
  rw [restP, List.flatMap_append, List.drop_zero, List.take_of_length_le (l := th.drop (j + 1)) (by simp)]
theorem drew_size (w : World) : w.drew.heap.size = w.heap.size := rfl
theorem step_list {g : Option Nat} {k : Int} {th r : List Held} {s : Step} {q : Nat} (hr : restP g th = r) (hq : placeP k s r = q) (hd : ¬ s.do_ = 2) (hle : q ≤ r.length) :
    (stepR g k th s).length = q + 1 + (r.length - q) ∧ (stepR g k th s).flatMap Held.thing = ((r.drop 0).take q).flatMap Held.thing ++ (heldOf s).thing ++ ((r.drop q).take (r.length - q)).flatMap Held.thing := by
  rw [stepR, if_neg hd, hr, hq]
  refine ⟨by simp; omega, ?_⟩
  rw [List.flatMap_append, List.flatMap_cons, List.drop_zero, List.take_of_length_le (l := r.drop q) (by simp), List.append_assoc]
end Go.Proofs.YtkoeplbkeboklaaGreat
/- retro.At, retro.Check, and the reference's Step, Good, Check: what they return. -/
set_option linter.unusedVariables false
set_option linter.unusedSimpArgs false
namespace Go.Proofs.YtkoeplbkeboklaaGreat
open Go.RowKit
/-- A list, or an error. -/
def atP (k : Int) (l : List Step) (t : Int) : List Pair × Int := if isLineP k l then (thereP k l t, 0) else ([], 2)
def checkP (k : Int) (l : List Step) : Int := if isLineP k l then 0 else 2

theorem refIn_any (n : Int) (w : World) : Calls Tryz.prog 38 #[.int .i64 n] w fun e w' => e = .returned (.bool (withinP n (-1000000000) 1000000000)) ∧ w = w' := by
  unfold withinP
  by_cases h1 : -1000000000 ≤ n <;> by_cases h2 : n ≤ 1000000000 <;>
  (go_enter Tryz.func38, Tryz.ntmps38
   go_wp2
   go_ret
   exact ⟨by simp [h1, h2], rfl⟩)
theorem refKind_any (n : Int) (w : World) : Calls Tryz.prog 19 #[.int .i64 n] w fun e w' => e = .returned (.bool (decide (1 ≤ n) && decide (n ≤ 3))) ∧ w = w' := by
  by_cases h1 : 1 ≤ n <;> by_cases h2 : n ≤ 3 <;>
  (go_enter Tryz.func19, Tryz.ntmps19
   go_wp2
   go_ret
   exact ⟨by simp [h1, h2], rfl⟩)
set_option maxHeartbeats 4000000 in
theorem refStep_any (k : Int) (s : Step) (w : World) : Calls Tryz.prog 18 #[.int .i64 k, .agg #[.int .i64 s.at_, .int .i64 s.do_, .int .i64 s.key, .int .i64 s.val]] w fun e w' => e = .returned (.bool (isStepP k s)) ∧ Below w.heap.size w w' := by
  obtain ⟨a, d, ky, v⟩ := s
  go_enter Tryz.func18, Tryz.ntmps18
  go_wp2_with (go_at_call 38; refine (refIn_any _ _).mono ?_; rintro e w' ⟨rfl, rfl⟩)
  all_goals
    go_ret
    refine ⟨ret_bool ?_, (Below.refl _ _).alloc (Nat.le_refl _) _⟩
    simp only [isStepP, withinP] at *
    grind
theorem refStep_is {k : Int} {s : Step} {r : Bool} (h : isStepP k s = r) (w : World) : Calls Tryz.prog 18 #[.int .i64 k, .agg #[.int .i64 s.at_, .int .i64 s.do_, .int .i64 s.key, .int .i64 s.val]] w fun e w' => e = .returned (.bool r) ∧ Below w.heap.size w w' :=
  (refStep_any k s w).mono fun e w' h' => ⟨by rw [h'.1, h], h'.2⟩
theorem isLineP_good {k : Int} {l : List Step} (h : okTo k l l.length) : isLineP k l = ((decide (1 ≤ k) && decide (k ≤ 3)) && decide (l.length ≤ 60)) := by
  have a : l.all (isStepP k) = true := by
    rw [List.all_eq_true]
    intro x hx
    obtain ⟨i, hi, rfl⟩ := List.getElem_of_mem hx
    exact h.1 i _ hi (List.getElem?_eq_getElem hi)
  have b : incP l = true := (incP_iff l).2 fun i x y e1 e2 => h.2 i x y (List.getElem?_eq_some_iff.1 e2).1 e1 e2
  simp only [isLineP, a, b, Bool.and_true]
set_option maxHeartbeats 4000000 in
theorem good_any (k : Int) (v : Value) (l : List Step) (w : World) (hr : Rd Step.cells 4 w v l) :
    Calls Tryz.prog 7 #[.agg #[.int .i64 k, v]] w fun e w' => e = .returned (.bool (isLineP k l)) ∧ Below w.heap.size w w' := by
  obtain ⟨hn, a, c, rfl, hr⟩ := hr
  go_enter Tryz.func7, Tryz.ntmps7
  go_wp2
  go_loopw [8] (fun i W => ∃ n : Nat, i = .int .i64 n ∧ n ≤ l.length ∧ okTo k l n ∧ Below w.heap.size w W ∧ w.heap.size < W.heap.size ∧ W.cell? ⟨w.heap.size, 0, none⟩ = some (.int .i64 k) ∧ W.cell? ⟨w.heap.size, 1, none⟩ = some (.slice a l.length c)) (fun i _ => l.length - (intOf i).toNat)
  case atStart => exact ⟨0, rfl, by omega, okTo_zero _ _, (Below.refl _ _).alloc (Nat.le_refl _) _, by simp, by simp, by simp⟩
  case round =>
    obtain ⟨n, rfl, hnl, hok, hB, hlt, hc0, hc1⟩ := hrel
    have hr0 := hr; clear hr
    by_cases hlt' : n < l.length
    · obtain ⟨b, off, rfl, hbl, hrd⟩ := hr0 (by omega)
      have hx := List.getElem?_eq_getElem hlt'
      generalize l[n] = s at hx
      have hcell : ∀ j u, s.cells[j]? = some u → wr.cell? ⟨b, off + n * 4 + j, none⟩ = some u := fun j u hu => (hB.cell (p := ⟨b, _, none⟩) hbl).trans (hrd n s hx j u hu)
      have q0 : wr.cell? ⟨b, off + n * 4, none⟩ = some (.int .i64 s.at_) := hcell 0 _ rfl
      have q1 := hcell 1 _ rfl
      have q2 := hcell 2 _ rfl
      have q3 := hcell 3 _ rfl
      clear hcell hr0
      have HX := Lib.hid hx; clear hx
      by_cases hs : isStepP k s = true
      · have HC := Lib.hid (refStep_is hs)
        have HS := Lib.hid hs; clear hs
        by_cases h0 : n ≤ 0
        · have hd : decide (0 < n) = false := by simp; omega
          go_wp2
          refine named_box wr _ _ fun W0 hb0 hz0 hbx => ?_
          have d0 := fun p : Ext W0 => p.cell (hbx 0)
          have d1 := fun p : Ext W0 => p.cell (hbx 1)
          have d2 := fun p : Ext W0 => p.cell (hbx 2)
          have d3 := fun p : Ext W0 => p.cell (hbx 3)
          have d4 := fun p : Ext W0 => p.cell (below_cell hb0 hc0)
          have HC1 := Lib.hid (below_cell hb0 hc1)
          have HC0 := Lib.hid (below_cell hb0 hc0)
          clear hbx hc0 hc1 q0 q1 q2 q3
          refine wp_region_ext (by kernel_rfl) (by kernel_rfl) ?_
          repeat (go_big_quiet_step ((go_at_call 18; exact Ext.of (HC.out _))))
          refine wpQuiet_nil ?_
          rintro _ ⟨⟨W1, hb1⟩, rfl⟩
          go_wp2
          go_roundw
          case rel =>
            obtain rfl : n = 0 := by omega
            exact ⟨1, rfl, by omega, okTo_one HX.out HS.out, (hB.trans (hb0.mono hB.size)).trans (hb1.mono (by have := hB.size; omega)), by have := hb1.size; omega, below_cell hb1 HC0.out, below_cell hb1 HC1.out⟩
          case measure => simp [intOf]; omega
        · obtain ⟨m, rfl⟩ : ∃ m, n = m + 1 := ⟨n - 1, by omega⟩
          have hp := List.getElem?_eq_getElem (show m < l.length by omega)
          generalize l[m] = p0 at hp
          have r0 : wr.cell? ⟨b, off + m * 4, none⟩ = some (.int .i64 p0.at_) := (hB.cell (p := ⟨b, _, none⟩) hbl).trans (hrd m p0 hp 0 _ rfl)
          have HP := Lib.hid hp; clear hp
          by_cases hle : p0.at_ < s.at_
          · go_wp2
            refine named_box wr _ _ fun W0 hb0 hz0 hbx => ?_
            have d0 := fun p : Ext W0 => p.cell (hbx 0)
            have d1 := fun p : Ext W0 => p.cell (hbx 1)
            have d2 := fun p : Ext W0 => p.cell (hbx 2)
            have d3 := fun p : Ext W0 => p.cell (hbx 3)
            have d4 := fun p : Ext W0 => p.cell (below_cell hb0 hc0)
            have d5 := fun p : Ext W0 => p.cell (below_cell hb0 hc1)
            have d6 := fun p : Ext W0 => p.cell (below_cell hb0 r0)
            have HC1 := Lib.hid (below_cell hb0 hc1)
            have HC0 := Lib.hid (below_cell hb0 hc0)
            clear hbx hc0 hc1 q0 q1 q2 q3 r0
            refine wp_region_ext (by kernel_rfl) (by kernel_rfl) ?_
            repeat (go_big_quiet_step ((go_at_call 18; exact Ext.of (HC.out _))))
            refine wpQuiet_nil ?_
            rintro _ ⟨⟨W1, hb1⟩, rfl⟩
            go_wp2
            go_roundw
            case rel => exact ⟨m + 2, by go_num, by omega, okTo_succ hok HP.out HX.out HS.out hle, (hB.trans (hb0.mono hB.size)).trans (hb1.mono (by have := hB.size; omega)), by have := hb1.size; omega, below_cell hb1 HC0.out, below_cell hb1 HC1.out⟩
            case measure => simp [intOf]; omega
          · go_wp2
            refine named_box wr _ _ fun W0 hb0 hz0 hbx => ?_
            have d0 := fun p : Ext W0 => p.cell (hbx 0)
            have d1 := fun p : Ext W0 => p.cell (hbx 1)
            have d2 := fun p : Ext W0 => p.cell (hbx 2)
            have d3 := fun p : Ext W0 => p.cell (hbx 3)
            have d4 := fun p : Ext W0 => p.cell (below_cell hb0 hc0)
            have d5 := fun p : Ext W0 => p.cell (below_cell hb0 hc1)
            have d6 := fun p : Ext W0 => p.cell (below_cell hb0 r0)
            have HC1 := Lib.hid (below_cell hb0 hc1)
            have HC0 := Lib.hid (below_cell hb0 hc0)
            clear hbx hc0 hc1 q0 q1 q2 q3 r0
            refine wp_region_ext (by kernel_rfl) (by kernel_rfl) ?_
            repeat (go_big_quiet_step ((go_at_call 18; exact Ext.of (HC.out _))))
            refine wpQuiet_nil ?_
            rintro _ ⟨⟨W1, hb1⟩, rfl⟩
            go_wp2
            go_ret
            exact ⟨by rw [isLineP_bad2 HP.out HX.out (by omega)]; rfl, (hB.trans (hb0.mono hB.size)).trans (hb1.mono (by have := hB.size; omega))⟩
      · have hs' : isStepP k s = false := by simpa using hs
        have HC := Lib.hid (refStep_is hs')
        have HS := Lib.hid hs'; clear hs hs'
        go_wp2
        refine named_box wr _ _ fun W0 hb0 hz0 hbx => ?_
        have d0 := fun p : Ext W0 => p.cell (hbx 0)
        have d1 := fun p : Ext W0 => p.cell (hbx 1)
        have d2 := fun p : Ext W0 => p.cell (hbx 2)
        have d3 := fun p : Ext W0 => p.cell (hbx 3)
        have d4 := fun p : Ext W0 => p.cell (below_cell hb0 hc0)
        clear hbx hc0 hc1 q0 q1 q2 q3
        refine wp_region_ext (by kernel_rfl) (by kernel_rfl) ?_
        repeat (go_big_quiet_step ((go_at_call 18; exact Ext.of (HC.out _))))
        refine wpQuiet_nil ?_
        rintro _ ⟨⟨W1, hb1⟩, rfl⟩
        go_wp2
        go_ret
        exact ⟨by rw [isLineP_bad1 HX.out HS.out]; rfl, (hB.trans (hb0.mono hB.size)).trans (hb1.mono (by have := hB.size; omega))⟩
    · obtain rfl : n = l.length := by omega
      have hG := isLineP_good hok
      have HG := Lib.hid hG
      clear hr0 hok hG
      by_cases hk : (decide (1 ≤ k) && decide (k ≤ 3)) = true
      · go_wp2_with (go_at_call 19; refine (refKind_any _ _).mono ?_; rintro e w' ⟨rfl, rfl⟩)
        go_ret
        exact ⟨ret_bool (by rw [HG.out, hk]; simp; omega), hB⟩
      · have hk' : (decide (1 ≤ k) && decide (k ≤ 3)) = false := by simpa using hk
        clear hk
        go_wp2_with (go_at_call 19; refine (refKind_any _ _).mono ?_; rintro e w' ⟨rfl, rfl⟩)
        go_ret
        exact ⟨ret_bool (by rw [HG.out, hk']; simp), hB⟩

end Go.Proofs.YtkoeplbkeboklaaGreat
/- The reference's AtOf: what is there in a line at a time. -/
set_option linter.unusedVariables false
set_option linter.unusedSimpArgs false
namespace Go.Proofs.YtkoeplbkeboklaaGreat
open Go.RowKit
theorem stepR_eq {k : Int} {th : List Held} {s : Step} (hk : 1 ≤ k ∧ k ≤ 3) (hd : s.do_ = 1 ∨ s.do_ = 2) (hs : k = 3 → sortH th) : stepR (goneP k th s) k th s = (doP k th s).1 ∧ fromP (goneP k th s) th = (doP k th s).2.from_ := by
  obtain ⟨h1, h2⟩ := doP_ref (k := k) (th := th) (s := s) hk hd hs
  exact ⟨h2.symm, h1.symm⟩
/-- A line whose kind and whose steps' deeds are formed: all that the reference's walks ask. -/
def okLine (k : Int) (l : List Step) : Prop := (1 ≤ k ∧ k ≤ 3) ∧ (∀ s ∈ l, s.do_ = 1 ∨ s.do_ = 2) ∧ l.length ≤ 100000
theorem okLine_of {k : Int} {l : List Step} (h : isLineP k l = true) : okLine k l := by
  obtain ⟨h1, h2, h3, h4, _⟩ := isLineP_spec h
  refine ⟨⟨h1, h2⟩, fun s hs => ?_, by omega⟩
  have := h4 s hs
  simp only [isStepP] at this
  split at this
  · split at this
    · cases this
    · simp at this; omega
  · cases this
end Go.Proofs.YtkoeplbkeboklaaGreat
/- The plain side of retro: lines with a step more, or less. No program in sight. -/
set_option linter.unusedVariables false
set_option linter.unusedSimpArgs false
namespace Go.Proofs.YtkoeplbkeboklaaGreat
/-- Where a time stands in a line: how many steps, from the front, are ahead of it. -/
def placeAt (t : Int) : List Step → Nat
  | [] => 0
  | s :: l => if s.at_ < t then placeAt t l + 1 else 0
theorem placeAt_le (t : Int) : ∀ l : List Step, placeAt t l ≤ l.length
  | [] => by simp [placeAt]
  | h :: l => by simp only [placeAt]; split <;> simp; exact placeAt_le t l
def hasP (l : List Step) (t : Int) : Bool := match l[placeAt t l]? with | some s => s.at_ == t | none => false
def withP (l : List Step) (s : Step) : List Step := l.take (placeAt s.at_ l) ++ s :: l.drop (placeAt s.at_ l)
def withoutP (l : List Step) (i : Nat) : List Step := l.take i ++ l.drop (i + 1)
theorem placeAt_drop {t : Int} {l : List Step} {n : Nat} {s : Step} (h : l[n]? = some s) : placeAt t (l.drop n) = if s.at_ < t then placeAt t (l.drop (n + 1)) + 1 else 0 := by
  obtain ⟨hlt, rfl⟩ := List.getElem?_eq_some_iff.1 h
  rw [List.drop_eq_getElem_cons hlt, placeAt]
end Go.Proofs.YtkoeplbkeboklaaGreat
/- The reference's place and has. -/
set_option linter.unusedVariables false
set_option linter.unusedSimpArgs false
namespace Go.Proofs.YtkoeplbkeboklaaGreat
open Go.RowKit
end Go.Proofs.YtkoeplbkeboklaaGreat
/- The reference's Copy, With and Without. -/
set_option linter.unusedVariables false
set_option linter.unusedSimpArgs false
namespace Go.Proofs.YtkoeplbkeboklaaGreat
open Go.RowKit
theorem step_len (x : Step) : x.cells.length = 4 := rfl
theorem step_one (x : Step) : ∀ u ∈ x.cells, u.oneCell' = true := by simp [Step.cells, Value.oneCell']
theorem info_step : (Tryz.prog.info? 46).map (fun i => (i.zero, i.size, i.bytes)) = some (some (.agg #[.int .i64 0, .int .i64 0, .int .i64 0, .int .i64 0]), 4, 32) := by kernel_rfl
theorem stored2 (w : World) (r : Nat) (a b : Value) : Fr (fun i => i = r) w ((w.setCell ⟨r, 0, none⟩ a).setCell ⟨r, 1, none⟩ b) :=
  fr_trans (fr_setCell w ⟨r, 0, none⟩ a) (fr_setCell _ ⟨r, 1, none⟩ b) fun i _ h => h
theorem stored2_blk {w : World} {r T : Nat} {u0 u1 : Value} (h : w.heap[r]? = some (.cells #[u0, u1] T (0, 0))) (a b : Value) : ((w.setCell ⟨r, 0, none⟩ a).setCell ⟨r, 1, none⟩ b).heap[r]? = some (.cells #[a, b] T (0, 0)) := by
  simp [World.setCell, Array.getElem?_modify, h]
/-- A line written into its variable. -/
theorem line_end {w w2 : World} {r : Nat} {k : Int} {v2 u0 u1 : Value} {S2 : Nat → Prop} {l : List Step} (hB : w.heap.size ≤ w2.heap.size) (hb : Below w.heap.size w w2) (hr : w2.heap[r]? = some (.cells #[u0, u1] 25 (0, 0))) (hw : w.heap.size ≤ r) (hwin : Win Step.cells 4 46 w2 v2 S2 l) (hS : ∀ i, S2 i → i ≠ r ∧ w.heap.size ≤ i) :
    ∀ W3, (w2.setCell ⟨r, 0, none⟩ (.int .i64 k)).setCell ⟨r, 1, none⟩ v2 = W3 → W3.cell? ⟨r, 0, none⟩ = some (.int .i64 k) ∧ W3.cell? ⟨r, 1, none⟩ = some v2 ∧ Win Step.cells 4 46 W3 v2 (fun i => w.heap.size ≤ i) l ∧ Below w.heap.size w W3 := by
  rintro W3 rfl
  have h := stored2_blk hr (.int .i64 k) v2
  refine ⟨cell_blk h 0, cell_blk h 1, winC_mono (winC_move hwin (stored2 w2 r _ _) fun i hi e => (hS i hi).1 e) fun i hi => (hS i hi).2, hb.trans (below_of_fr (stored2 w2 r _ _) hB fun i hi => hi ▸ hw)⟩
end Go.Proofs.YtkoeplbkeboklaaGreat
/- The reference's With. -/
set_option linter.unusedVariables false
set_option linter.unusedSimpArgs false
namespace Go.Proofs.YtkoeplbkeboklaaGreat
open Go.RowKit
/-- nil, or a slice with room for what it has. -/
def SlOk (v : Value) : Prop := v = .slice none 0 0 ∨ ∃ b off n c, v = .slice (some ⟨b, off, none⟩) n c ∧ n ≤ c
theorem with_len {l : List Step} {s : Step} {q : Nat} (hq : placeAt s.at_ l = q) (h : q ≤ l.length) : (withP l s).length = q + 1 + (l.length - q) := by simp [withP, hq]; omega
theorem with_flat {l : List Step} {s : Step} {q : Nat} (hq : placeAt s.at_ l = q) (enc : Step → List Value) : (withP l s).flatMap enc = ((l.drop 0).take q).flatMap enc ++ enc s ++ ((l.drop q).take (l.length - q)).flatMap enc := by
  rw [withP, hq, List.flatMap_append, List.flatMap_cons, List.drop_zero, List.take_of_length_le (l := l.drop q) (by simp), List.append_assoc]
theorem line_boxes {w w1 : World} {cs ds es : Array Value} {T U V : TypeId} (h : Below (((w.alloc (.cells cs T)).alloc (.cells ds U)).alloc (.cells es V)).heap.size (((w.alloc (.cells cs T)).alloc (.cells ds U)).alloc (.cells es V)) w1) :
    Below w.heap.size w w1 ∧ w.heap.size + 3 ≤ w1.heap.size ∧ w1.heap[w.heap.size]? = some (.cells cs T (0, 0)) ∧ w1.heap[w.heap.size + 1]? = some (.cells ds U (0, 0)) ∧ w1.heap[w.heap.size + 1 + 1]? = some (.cells es V (0, 0)) := by
  refine named_box3 (G := fun W0 => Below W0.heap.size W0 w1 → Below w.heap.size w w1 ∧ w.heap.size + 3 ≤ w1.heap.size ∧ w1.heap[w.heap.size]? = some (.cells cs T (0, 0)) ∧ w1.heap[w.heap.size + 1]? = some (.cells ds U (0, 0)) ∧ w1.heap[w.heap.size + 1 + 1]? = some (.cells es V (0, 0))) w cs ds es T U V (fun W0 h1 h2 h3 h4 h5 h => ?_) h
  have hs := h.size
  exact ⟨h1.trans (h.mono (by omega)), by omega, (h.block _ (by omega)).trans h3, (h.block _ (by omega)).trans h4, (h.block _ (by omega)).trans h5⟩
end Go.Proofs.YtkoeplbkeboklaaGreat
/- The reference's Same: whether two lines are equal. -/
set_option linter.unusedVariables false
set_option linter.unusedSimpArgs false
namespace Go.Proofs.YtkoeplbkeboklaaGreat
open Go.RowKit
set_option maxHeartbeats 4000000 in
theorem same_any (k1 k2 : Int) (v1 v2 : Value) (xs ys : List Step) (w : World) (r1 : Rd Step.cells 4 w v1 xs) (r2 : Rd Step.cells 4 w v2 ys) :
    Calls Tryz.prog 29 #[.agg #[.int .i64 k1, v1], .agg #[.int .i64 k2, v2]] w fun e w' => e = .returned (.bool (decide (k1 = k2 ∧ xs = ys))) ∧ Below w.heap.size w w' := by
  obtain ⟨a1, c1, rfl⟩ : ∃ a c, v1 = .slice a xs.length c := by obtain ⟨_, a, c, rfl, _⟩ := r1; exact ⟨a, c, rfl⟩
  obtain ⟨a2, c2, rfl⟩ : ∃ a c, v2 = .slice a ys.length c := by obtain ⟨_, a, c, rfl, _⟩ := r2; exact ⟨a, c, rfl⟩
  have R1 := Lib.hid r1
  have R2 := Lib.hid r2
  have hm := r1.1
  clear r1 r2
  by_cases hk : k1 = k2
  · have hkb : (k1 != k2) = false := by simp [hk]
    have HK := Lib.hid hk
    clear hk
    by_cases hl : xs.length = ys.length
    · have hlb : ((xs.length : Int) != (ys.length : Int)) = false := by simp; omega
      have HL := Lib.hid hl
      go_enter Tryz.func29, Tryz.ntmps29
      go_wp2
      go_loopw [23] (fun i W => ∃ n : Nat, i = .int .i64 n ∧ n ≤ xs.length ∧ eqTo xs ys n ∧ Below w.heap.size w W ∧ w.heap.size + 1 < W.heap.size ∧ W.cell? ⟨w.heap.size, 1, none⟩ = some (.slice a1 xs.length c1) ∧ W.cell? ⟨w.heap.size + 1, 1, none⟩ = some (.slice a2 ys.length c2)) (fun i _ => xs.length - (intOf i).toNat)
      case atStart => exact ⟨0, rfl, by omega, fun i x y h => absurd h (by omega), ((Below.refl _ _).alloc (Nat.le_refl _) _).alloc (by simp) _, by simp, by simp [HL.out], by simp [HL.out]⟩
      case round =>
        obtain ⟨n, rfl, hnl, hok, hB, hlt, hc1, hc2⟩ := hrel
        by_cases hlt' : n < xs.length
        · have hlt2 : n < ys.length := by omega
          have hx := List.getElem?_eq_getElem hlt'
          have hy := List.getElem?_eq_getElem hlt2
          generalize xs[n] = x at hx
          generalize ys[n] = y at hy
          obtain ⟨b1, o1, rfl, hbl1, h1⟩ := rd_at (R1.out.below hB) hx
          obtain ⟨b2, o2, rfl, hbl2, h2⟩ := rd_at (R2.out.below hB) hy
          have q0 : wr.cell? ⟨b1, o1 + n * 4, none⟩ = some (.int .i64 x.at_) := h1 0 _ rfl
          have q1 := h1 1 _ rfl
          have q2 := h1 2 _ rfl
          have q3 := h1 3 _ rfl
          have p0 : wr.cell? ⟨b2, o2 + n * 4, none⟩ = some (.int .i64 y.at_) := h2 0 _ rfl
          have p1 := h2 1 _ rfl
          have p2 := h2 2 _ rfl
          have p3 := h2 3 _ rfl
          have n1 : (n : Int) < (ys.length : Int) := by omega
          have hne := fun w' => neqStep x y w'
          have HX := Lib.hid (And.intro hx (And.intro hy hok))
          clear h1 h2 hx hy hok
          by_cases hxy : x = y
          · have hd : decide (x = y) = true := decide_eq_true hxy
            have HE := Lib.hid hxy; clear hxy
            go_wp2
            go_quiet (fail)
            go_wp2
            go_roundw
            case rel => exact ⟨n + 1, by go_num, by omega, eqTo_succ HX.out.2.2 HX.out.1 HX.out.2.1 HE.out, below_drewN hB _, hlt, hc1, hc2⟩
            case measure => simp [intOf]; omega
          · have hd : decide (x = y) = false := decide_eq_false hxy
            have HE := Lib.hid hxy; clear hxy
            go_wp2
            go_quiet (fail)
            go_wp2
            go_ret
            exact ⟨ret_bool (by symm; exact decide_eq_false fun h => HE.out (by have a := HX.out.1; have b := HX.out.2.1; rw [h.2, b] at a; exact (Option.some.inj a).symm)), below_drewN hB _⟩
        · obtain rfl : n = xs.length := by omega
          have HO := Lib.hid hok
          clear hok
          go_wp2
          go_ret
          exact ⟨ret_bool (by symm; exact decide_eq_true ⟨HK.out, List.ext_getElem? fun i => by
            by_cases hi : i < xs.length
            · rw [List.getElem?_eq_getElem hi, List.getElem?_eq_getElem (by have := HL.out; omega)]
              exact congrArg some (HO.out i _ _ hi (List.getElem?_eq_getElem hi) (List.getElem?_eq_getElem (by have := HL.out; omega)))
            · rw [List.getElem?_eq_none (by omega), List.getElem?_eq_none (by have := HL.out; omega)]⟩), hB⟩
    · have hlb : ((xs.length : Int) != (ys.length : Int)) = true := by simp; omega
      have HL := Lib.hid hl
      clear hl
      go_enter Tryz.func29, Tryz.ntmps29
      go_wp2
      go_ret
      exact ⟨ret_bool (by symm; exact decide_eq_false fun h => HL.out (by rw [h.2])), ((Below.refl _ _).alloc (Nat.le_refl _) _).alloc (by simp) _⟩
  · have hkb : (k1 != k2) = true := by simp [hk]
    have HK := Lib.hid hk
    clear hk
    go_enter Tryz.func29, Tryz.ntmps29
    go_wp2
    go_ret
    exact ⟨ret_bool (by symm; exact decide_eq_false fun h => HK.out h.1), ((Below.refl _ _).alloc (Nat.le_refl _) _).alloc (by simp) _⟩
end Go.Proofs.YtkoeplbkeboklaaGreat
/- The plain side of retro: lives, and what is taken. No program in sight. -/
set_option linter.unusedVariables false
set_option linter.unusedSimpArgs false
namespace Go.Proofs.YtkoeplbkeboklaaGreat
/-- What RetroOuts take, from what is there on. -/
def takesFrom (k : Int) : List Held → List Step → List Span
  | _, [] => []
  | th, s :: l => (if s.do_ = 2 then [⟨(doP k th s).2.from_, s.at_⟩] else []) ++ takesFrom k (doP k th s).1 l
def takesOf (k : Int) (l : List Step) : List Span := takesFrom k [] l
theorem takesFrom_drop {k : Int} {th : List Held} {l : List Step} {n : Nat} {s : Step} (h : l[n]? = some s) :
    takesFrom k th (l.drop n) = (if s.do_ = 2 then [⟨(doP k th s).2.from_, s.at_⟩] else []) ++ takesFrom k (doP k th s).1 (l.drop (n + 1)) := by
  obtain ⟨hlt, rfl⟩ := List.getElem?_eq_some_iff.1 h
  rw [List.drop_eq_getElem_cons hlt, takesFrom]
theorem doP_sort {k : Int} {th : List Held} (s : Step) (h : k = 3 → sortH th) (hk : 1 ≤ k ∧ k ≤ 3) : k = 3 → sortH (doP k th s).1 := by
  intro h3
  rw [show doP k th s = mapDo th s by simp [doP, h3]]
  exact mapDo_sort s (h h3)
end Go.Proofs.YtkoeplbkeboklaaGreat
/- The plain side of retro: lives. No program in sight. -/
set_option linter.unusedVariables false
set_option linter.unusedSimpArgs false
namespace Go.Proofs.YtkoeplbkeboklaaGreat
def closeL (f at_ : Int) (x : Life) : Life := if x.from_ = f then { x with to_ := at_ } else x
/-- The lives, from what is there and the lives so far on. -/
def livesFrom (k : Int) : List Held → List Life → List Step → List Life
  | _, out, [] => out
  | th, out, s :: l => livesFrom k (doP k th s).1 (out.map (closeL (doP k th s).2.from_ s.at_) ++ if s.do_ = 1 then [⟨s.at_, 1001, s.key, s.val⟩] else []) l
def livesOf (k : Int) (l : List Step) : List Life := livesFrom k [] [] l
theorem livesFrom_drop {k : Int} {th : List Held} {out : List Life} {l : List Step} {n : Nat} {s : Step} (h : l[n]? = some s) :
    livesFrom k th out (l.drop n) = livesFrom k (doP k th s).1 (out.map (closeL (doP k th s).2.from_ s.at_) ++ if s.do_ = 1 then [⟨s.at_, 1001, s.key, s.val⟩] else []) (l.drop (n + 1)) := by
  obtain ⟨hlt, rfl⟩ := List.getElem?_eq_some_iff.1 h
  rw [List.drop_eq_getElem_cons hlt, livesFrom]
theorem close_step {α : Type} {xs : List α} {m : Nat} {x : α} (cl : α → α) (hx : xs[m]? = some x) :
    ((xs.take m).map cl ++ xs.drop m)[m]? = some x ∧ ((xs.take m).map cl ++ xs.drop m).set m (cl x) = (xs.take (m + 1)).map cl ++ xs.drop (m + 1) := by
  obtain ⟨hlt, rfl⟩ := List.getElem?_eq_some_iff.1 hx
  have hl : ((xs.take m).map cl).length = m := by simp; omega
  constructor
  · rw [List.getElem?_append_right (by omega), hl, Nat.sub_self, List.getElem?_drop]; simp
  · rw [List.set_append, if_neg (by omega), hl, Nat.sub_self, List.drop_eq_getElem_cons hlt, List.set_cons_zero, List.take_add_one, hx, List.map_append, List.append_assoc]
    rfl
theorem close_same {α : Type} {xs : List α} {m : Nat} {x : α} {cl : α → α} (hx : xs[m]? = some x) (h : cl x = x) : (xs.take (m + 1)).map cl ++ xs.drop (m + 1) = (xs.take m).map cl ++ xs.drop m := by
  obtain ⟨h1, h2⟩ := close_step cl hx
  rw [← h2, h]
  obtain ⟨hlt, he⟩ := List.getElem?_eq_some_iff.1 h1
  rw [← he]
  exact List.set_getElem_self hlt
end Go.Proofs.YtkoeplbkeboklaaGreat
/- The plain side of retro: the spans in which two lines differ, as the reference reckons them. No program in sight. -/
set_option linter.unusedVariables false
set_option linter.unusedSimpArgs false
namespace Go.Proofs.YtkoeplbkeboklaaGreat
/-- A time among times that increase. -/
def insT (t : Int) : List Int → List Int
  | [] => [t]
  | x :: xs => if x < t then x :: insT t xs else if x = t then x :: xs else t :: x :: xs
/-- How many, from the front, are smaller. -/
def lessT (t : Int) : List Int → Nat
  | [] => 0
  | x :: xs => if x < t then lessT t xs + 1 else 0
def timesP (l : List Step) : List Int := l.foldl (fun ts s => insT s.at_ ts) [1001]
/-- One span more, or the last one longer. -/
def addSpan (out : List Span) (t1 t2 : Int) : List Span :=
  match out.getLast? with
  | some x => if x.to_ = t1 - 1 then out.dropLast ++ [{ x with to_ := t2 - 1 }] else out ++ [⟨t1, t2 - 1⟩]
  | none => [⟨t1, t2 - 1⟩]
def diffFrom (k : Int) (a b : List Step) : List Int → List Span → List Span
  | t1 :: t2 :: ts, out => diffFrom k a b (t2 :: ts) (if thereP k a t1 = thereP k b t1 then out else addSpan out t1 t2)
  | _, out => out
def diffOf (k : Int) (a b : List Step) : List Span := diffFrom k a b (timesP (a ++ b)) []
theorem lessT_le (t : Int) : ∀ l : List Int, lessT t l ≤ l.length
  | [] => by simp [lessT]
  | h :: l => by simp only [lessT]; split <;> simp; exact lessT_le t l
theorem lessT_drop {t : Int} {l : List Int} {n : Nat} {x : Int} (h : l[n]? = some x) : lessT t (l.drop n) = if x < t then lessT t (l.drop (n + 1)) + 1 else 0 := by
  obtain ⟨hlt, rfl⟩ := List.getElem?_eq_some_iff.1 h
  rw [List.drop_eq_getElem_cons hlt, lessT]
theorem insT_eq (t : Int) : ∀ l : List Int, (l[lessT t l]? = some t → insT t l = l) ∧ (l[lessT t l]? ≠ some t → insT t l = l.take (lessT t l) ++ t :: l.drop (lessT t l))
  | [] => by simp [insT, lessT]
  | x :: l => by
    obtain ⟨h1, h2⟩ := insT_eq t l
    simp only [insT, lessT]
    by_cases hx : x < t
    · rw [if_pos hx, if_pos hx]
      simp only [List.getElem?_cons_succ, List.take_succ_cons, List.drop_succ_cons, List.cons_append]
      exact ⟨fun h => by rw [h1 h], fun h => by rw [h2 h]⟩
    · rw [if_neg hx, if_neg hx]
      by_cases he : x = t
      · simp [he]
      · simp [he]
end Go.Proofs.YtkoeplbkeboklaaGreat
/- The plain side of retro: where a time stands in a line whose times increase. No program in sight. -/
set_option linter.unusedVariables false
set_option linter.unusedSimpArgs false
namespace Go.Proofs.YtkoeplbkeboklaaGreat
theorem incP_pair : ∀ {l : List Step}, incP l = true → l.Pairwise fun a b => a.at_ < b.at_
  | [], _ => List.Pairwise.nil
  | [a], _ => by simp
  | a :: b :: l, h => by
    simp only [incP, Bool.and_eq_true, decide_eq_true_eq] at h
    have ih := incP_pair h.2
    refine List.pairwise_cons.2 ⟨fun x hx => ?_, ih⟩
    rcases List.mem_cons.1 hx with rfl | hx
    · exact h.1
    · have := (List.pairwise_cons.1 ih).1 x hx; omega
theorem placeAt_iff {t : Int} : ∀ {l : List Step}, (l.Pairwise fun a b => a.at_ < b.at_) → ∀ {i : Nat} {s : Step}, l[i]? = some s → (s.at_ < t ↔ i < placeAt t l)
  | [], _, i, s, h => by simp at h
  | x :: l, hp, i, s, h => by
    obtain ⟨h1, h2⟩ := List.pairwise_cons.1 hp
    simp only [placeAt]
    cases i with
    | zero =>
      simp at h
      subst h
      by_cases hx : x.at_ < t <;> simp [hx]
    | succ i =>
      have h' : l[i]? = some s := by simpa using h
      by_cases hx : x.at_ < t
      · rw [if_pos hx, placeAt_iff h2 h']; omega
      · rw [if_neg hx]
        have := h1 s (List.mem_of_getElem? h')
        omega
end Go.Proofs.YtkoeplbkeboklaaGreat
/- The plain side of retro: times one behind the other, spans one behind the other. No program in sight. -/
set_option linter.unusedVariables false
set_option linter.unusedSimpArgs false
namespace Go.Proofs.YtkoeplbkeboklaaGreat
def timesTo (l : List Step) (n : Nat) : List Int := (l.take n).foldl (fun ts s => insT s.at_ ts) [1001]
theorem timesTo_all (l : List Step) : timesTo l l.length = timesP l := by rw [timesTo, List.take_length]; rfl
theorem timesTo_succ {l : List Step} {n : Nat} {s : Step} (h : l[n]? = some s) : timesTo l (n + 1) = insT s.at_ (timesTo l n) := by
  rw [timesTo, timesTo, List.take_add_one, h, List.foldl_append]; rfl
theorem insT_mem {t x : Int} : ∀ {l : List Int}, x ∈ insT t l ↔ x = t ∨ x ∈ l
  | [] => by simp [insT]
  | y :: l => by
    simp only [insT]
    split
    · simp only [List.mem_cons, insT_mem (l := l)]
      constructor
      · rintro (h | h | h) <;> simp [h]
      · rintro (h | h | h) <;> simp [h]
    · split
      · rename_i h; subst h; simp
      · simp
theorem insT_length (t : Int) : ∀ l : List Int, (insT t l).length ≤ l.length + 1
  | [] => by simp [insT]
  | y :: l => by
    simp only [insT]
    split
    · have := insT_length t l; simp; omega
    · split <;> simp
theorem foldl_mem {x : Int} : ∀ (l : List Step) (ts : List Int), x ∈ ts → x ∈ l.foldl (fun ts s => insT s.at_ ts) ts
  | [], ts, h => h
  | s :: l, ts, h => foldl_mem l _ (insT_mem.2 (.inr h))
theorem timesTo_last (l : List Step) (n : Nat) : (1001 : Int) ∈ timesTo l n := foldl_mem _ _ (by simp)
theorem foldl_length : ∀ (l : List Step) (ts : List Int), (l.foldl (fun ts s => insT s.at_ ts) ts).length ≤ ts.length + l.length
  | [], ts => by simp
  | s :: l, ts => by
    have h1 := foldl_length l (insT s.at_ ts)
    have h2 := insT_length s.at_ ts
    simp only [List.foldl_cons, List.length_cons]
    omega
theorem timesTo_length (l : List Step) (n : Nat) : (timesTo l n).length ≤ n + 1 := by
  have := foldl_length (l.take n) [1001]
  simp only [timesTo, List.length_take, List.length_cons, List.length_nil] at this ⊢
  omega
theorem foldl_range : ∀ (l : List Step) (ts : List Int), (∀ s ∈ l, 0 ≤ s.at_ ∧ s.at_ ≤ 1000) → (∀ x ∈ ts, 0 ≤ x ∧ x ≤ 1001) → ∀ x ∈ l.foldl (fun ts s => insT s.at_ ts) ts, 0 ≤ x ∧ x ≤ 1001
  | [], ts, _, h => h
  | s :: l, ts, hl, h => foldl_range l _ (fun y hy => hl y (by simp [hy])) fun x hx => by
    rcases insT_mem.1 hx with rfl | hx
    · have := hl s (by simp); omega
    · exact h x hx
theorem timesP_range {l : List Step} (h : ∀ s ∈ l, 0 ≤ s.at_ ∧ s.at_ ≤ 1000) : ∀ x ∈ timesP l, 0 ≤ x ∧ x ≤ 1001 := foldl_range l _ h (by simp)
theorem lessT_lt {t : Int} : ∀ {ts : List Int}, (1001 : Int) ∈ ts → t ≤ 1000 → lessT t ts < ts.length
  | [], h, _ => by simp at h
  | y :: ts, h, ht => by
    simp only [lessT]
    split
    · rename_i hy
      rcases List.mem_cons.1 h with h | h
      · omega
      · have := lessT_lt h ht; simp; omega
    · simp
theorem diffFrom_drop {k : Int} {a b : List Step} {ts : List Int} {n : Nat} {t1 t2 : Int} (out : List Span) (h1 : ts[n]? = some t1) (h2 : ts[n + 1]? = some t2) :
    diffFrom k a b (ts.drop n) out = diffFrom k a b (ts.drop (n + 1)) (if thereP k a t1 = thereP k b t1 then out else addSpan out t1 t2) := by
  obtain ⟨l1, rfl⟩ := List.getElem?_eq_some_iff.1 h1
  obtain ⟨l2, rfl⟩ := List.getElem?_eq_some_iff.1 h2
  rw [List.drop_eq_getElem_cons l1, List.drop_eq_getElem_cons l2, diffFrom]
theorem diffFrom_end {k : Int} {a b : List Step} {ts : List Int} {n : Nat} (out : List Span) (h : ts.length ≤ n + 1) : diffFrom k a b (ts.drop n) out = out := by
  have hl : (ts.drop n).length ≤ 1 := by simp; omega
  generalize ts.drop n = d at hl
  match d, hl with
  | [], _ => rfl
  | [x], _ => rfl
  | x :: y :: z, h => simp at h
theorem addSpan_nil (t1 t2 : Int) : addSpan [] t1 t2 = [⟨t1, t2 - 1⟩] := rfl
theorem addSpan_set {out : List Span} {m : Nat} {x : Span} {t1 t2 : Int} (hx : out[m]? = some x) (hm : m + 1 = out.length) (he : x.to_ = t1 - 1) : addSpan out t1 t2 = out.set m { x with to_ := t2 - 1 } := by
  rcases List.eq_nil_or_concat out with rfl | ⟨l, y, rfl⟩
  · simp at hm
  · rw [List.concat_eq_append] at *
    have hl : m = l.length := by simp at hm; omega
    subst hl
    have hy : y = x := by simpa using hx
    subst hy
    simp [addSpan, he]
theorem addSpan_new {out : List Span} {m : Nat} {x : Span} {t1 t2 : Int} (hx : out[m]? = some x) (hm : m + 1 = out.length) (he : ¬ x.to_ = t1 - 1) : addSpan out t1 t2 = out ++ [⟨t1, t2 - 1⟩] := by
  rcases List.eq_nil_or_concat out with rfl | ⟨l, y, rfl⟩
  · simp at hm
  · rw [List.concat_eq_append] at *
    have hl : m = l.length := by simp at hm; omega
    subst hl
    have hy : y = x := by simpa using hx
    subst hy
    simp [addSpan, he]
theorem addSpan_length (out : List Span) (t1 t2 : Int) : (addSpan out t1 t2).length ≤ out.length + 1 := by
  unfold addSpan
  split
  · split
    · simp
    · simp
  · simp
end Go.Proofs.YtkoeplbkeboklaaGreat
/- A cell of a window written. -/
set_option linter.unusedVariables false
set_option linter.unusedSimpArgs false
namespace Go.Proofs.YtkoeplbkeboklaaGreat
open Go.RowKit
theorem setCell_blk {w : World} {b o T : Nat} {cur : Array Value} (h : w.heap[b]? = some (.cells cur T (0, 0))) (u : Value) : (w.setCell ⟨b, o, none⟩ u).heap[b]? = some (.cells (cur.setIfInBounds o u) T (0, 0)) := by
  simp [World.setCell, Array.getElem?_modify, h]
theorem winC_set {k e : Nat} {w : World} {b off n c : Nat} {S : Nat → Prop} {cs : List Value} (h : WinC k e w (.slice (some ⟨b, off, none⟩) n c) S n cs) {j : Nat} (hj : j < n * k) (u : Value) :
    WinC k e (w.setCell ⟨b, off + j, none⟩ u) (.slice (some ⟨b, off, none⟩) n c) S n (cs.set j u) ∧ (w.cell? ⟨b, off + j, none⟩).isSome = true ∧ w.frozen? ⟨b, off + j, none⟩ = false := by
  obtain ⟨hl, h⟩ := h
  rcases h with ⟨hv, h'⟩ | ⟨g, o, cap, cur, hv, hS, hg, hnc, hcm, hcs, ht⟩
  · simp at hv
  · injection hv with h1 h2 h3
    injection h1 with h1
    injection h1 with h1 h4
    subst h1; subst h4; subst h3
    refine ⟨⟨by simp [hl], .inr ⟨b, off, c, _, rfl, hS, setCell_blk hg u, hnc, hcm, by simpa using hcs, ?_⟩⟩, ?_, free_blk hg _⟩
    · rw [Array.toList_setIfInBounds, List.drop_set, if_neg (by omega), Nat.add_sub_cancel_left, List.take_set, ht]
    · rw [cell_blk hg]
      have : n * k ≤ c * k := Nat.mul_le_mul_right _ hnc
      simp
      omega
theorem flat_set {α : Type} {enc : α → List Value} {k : Nat} (hk : ∀ x, (enc x).length = k) : ∀ (xs : List α) (i : Nat) (x y : α) (r : Nat) (u : Value), xs[i]? = some x → r < k → enc y = (enc x).set r u → (xs.set i y).flatMap enc = (xs.flatMap enc).set (i * k + r) u
  | [], i, x, y, r, u, h, _, _ => by simp at h
  | z :: xs, 0, x, y, r, u, h, hr, he => by
    simp only [List.getElem?_cons_zero, Option.some.injEq] at h
    subst h
    rw [List.set_cons_zero, List.flatMap_cons, List.flatMap_cons, he, Nat.zero_mul, Nat.zero_add, List.set_append, if_pos (by rw [hk]; exact hr)]
  | z :: xs, i + 1, x, y, r, u, h, hr, he => by
    rw [List.set_cons_succ, List.flatMap_cons, List.flatMap_cons, List.set_append, if_neg (by rw [hk, Nat.add_mul, Nat.one_mul]; omega), hk, flat_set hk xs i x y r u (by simpa using h) hr he, show (i + 1) * k + r - k = i * k + r by rw [Nat.add_mul, Nat.one_mul]; omega]
theorem win_set {α : Type} {enc : α → List Value} {k e : Nat} (hk : ∀ x, (enc x).length = k) {w : World} {b off n c : Nat} {S : Nat → Prop} {xs : List α} (h : Win enc k e w (.slice (some ⟨b, off, none⟩) n c) S xs) (hn : xs.length = n) {i r : Nat} {x y : α} {u : Value} (hx : xs[i]? = some x) (hr : r < k) (he : enc y = (enc x).set r u) :
    Win enc k e (w.setCell ⟨b, off + i * k + r, none⟩ u) (.slice (some ⟨b, off, none⟩) n c) S (xs.set i y) ∧ (w.cell? ⟨b, off + i * k + r, none⟩).isSome = true ∧ w.frozen? ⟨b, off + i * k + r, none⟩ = false := by
  subst hn
  have hi := (List.getElem?_eq_some_iff.1 hx).1
  have hj : i * k + r < xs.length * k := by
    have : (i + 1) * k ≤ xs.length * k := Nat.mul_le_mul_right _ hi
    rw [Nat.add_mul, Nat.one_mul] at this
    omega
  obtain ⟨h1, h2, h3⟩ := winC_set h hj u
  rw [Nat.add_assoc]
  refine ⟨?_, h2, h3⟩
  refine (?_ : WinC _ _ _ _ _ _ _)
  rw [List.length_set, flat_set hk xs i x y r u hx hr he]
  exact h1
end Go.Proofs.YtkoeplbkeboklaaGreat
/- The reference's Takes. -/
set_option linter.unusedVariables false
set_option linter.unusedSimpArgs false
namespace Go.Proofs.YtkoeplbkeboklaaGreat
open Go.RowKit
theorem span_len (x : Span) : x.cells.length = 2 := rfl
theorem info_span : (Tryz.prog.info? 50).map (fun i => (i.zero, i.size, i.bytes)) = some (some (.agg #[.int .i64 0, .int .i64 0]), 2, 16) := by kernel_rfl
def takesP (k : Int) (l : List Step) : List Span × Int := if isLineP k l then (takesOf k l, 0) else ([], 2)
end Go.Proofs.YtkoeplbkeboklaaGreat
/- The reference's DiffOf. -/
set_option linter.unusedVariables false
set_option linter.unusedSimpArgs false
namespace Go.Proofs.YtkoeplbkeboklaaGreat
open Go.RowKit
def cellI (x : Int) : List Value := [.int .i64 x]
theorem int_len (x : Int) : (cellI x).length = 1 := rfl
theorem int_one (x : Int) : ∀ u ∈ cellI x, u.oneCell' = true := by simp [cellI, Value.oneCell']
theorem info_int : (Tryz.prog.info? 3).map (fun i => (i.zero, i.size, i.bytes)) = some (some (.int .i64 0), 1, 8) := by kernel_rfl
theorem span_one (x : Span) : ∀ u ∈ x.cells, u.oneCell' = true := by simp [Span.cells, Value.oneCell']
theorem named_drewN {w : World} {n : Nat} {G : World → Prop} (h : ∀ W, Below w.heap.size w W → W.heap.size = w.heap.size → (∀ a, W.cell? a = w.cell? a) → G W) : G (w.drewN n) := h _ (below_drewN (Below.refl _ _) n) rfl (fun _ => rfl)
end Go.Proofs.YtkoeplbkeboklaaGreat
/- The plain side of retro: slim lines. No program in sight. -/
set_option linter.unusedVariables false
namespace Go.Proofs.YtkoeplbkeboklaaGreat
/-- A step that stays in a line that is slim from t on, by the lives L. -/
def aliveP (L : List Life) (t x : Int) : Bool := L.any fun y => y.from_ == x && decide (t < y.to_)
def keepP (L : List Life) (t : Int) (s : Step) : Bool := decide (t < s.at_) || aliveP L t s.at_
def slimOf (k : Int) (l : List Step) (t : Int) : List Step := l.filter (keepP (livesOf k l) t)
def capT (t : Int) : Int := if 1000 < t then 1000 else t
def slimP (k : Int) (l : List Step) (t : Int) : (Int × List Step) × Int := if isLineP k l then ((k, slimOf k l (capT t)), 0) else ((0, []), 2)
/-- What the table of those alive holds. -/
def aliveKv (t : Int) (L : List Life) : List (Int × Value) := L.foldl (fun kv x => (x.from_, .bool (decide (t < x.to_))) :: kv.filter fun p => p.1 != x.from_) []
theorem aliveKv_succ {t : Int} {L : List Life} {n : Nat} {x : Life} (h : L[n]? = some x) : aliveKv t (L.take (n + 1)) = (x.from_, .bool (decide (t < x.to_))) :: (aliveKv t (L.take n)).filter fun p => p.1 != x.from_ := by
  rw [aliveKv, aliveKv, List.take_add_one, h, List.foldl_append]; rfl
theorem kvGet_filter_ne {x y : Int} (h : x ≠ y) : ∀ kv : List (Int × Value), kvGet (kv.filter fun p => p.1 != y) x = kvGet kv x
  | [] => rfl
  | p :: kv => by
    have ih := kvGet_filter_ne h kv
    unfold kvGet at ih ⊢
    by_cases hp : p.1 = y
    · have h1 : (p.1 != y) = false := by simp [hp]
      have h2 : (p.1 == x) = false := by rw [hp, beq_eq_false_iff_ne]; exact fun e => h e.symm
      rw [List.filter_cons, h1, List.find?_cons, h2]
      exact ih
    · have h1 : (p.1 != y) = true := by simp [hp]
      rw [List.filter_cons, if_pos h1, List.find?_cons, List.find?_cons]
      split
      · rfl
      · exact ih
theorem kvGet_cons {kv : List (Int × Value)} {x y : Int} {v : Value} : kvGet ((y, v) :: kv.filter fun p => p.1 != y) x = if x = y then some v else kvGet kv x := by
  by_cases h : x = y
  · subst h; simp [kvGet]
  · rw [if_neg h, ← kvGet_filter_ne h kv]
    have : (y == x) = false := by rw [beq_eq_false_iff_ne]; exact fun e => h e.symm
    simp [kvGet, List.find?_cons, this]
theorem aliveKv_to {t : Int} {L : List Life} (hn : (L.map Life.from_).Nodup) (x : Int) : ∀ n, n ≤ L.length → (kvGet (aliveKv t (L.take n)) x).getD (.bool false) = .bool (aliveP (L.take n) t x)
  | 0, _ => rfl
  | n + 1, hl => by
    have ih := aliveKv_to (t := t) hn x n (by omega)
    have hx := List.getElem?_eq_getElem (show n < L.length by omega)
    generalize hy : L[n] = y at hx
    rw [aliveKv_succ hx, kvGet_cons]
    have e : aliveP (L.take (n + 1)) t x = (aliveP (L.take n) t x || (y.from_ == x && decide (t < y.to_))) := by
      rw [aliveP, List.take_add_one, hx, List.any_append]; simp [aliveP]
    rw [e]
    by_cases h : x = y.from_
    · rw [if_pos h]
      have : aliveP (L.take n) t x = false := by
        rw [aliveP, List.any_eq_false]
        intro z hz
        simp only [Bool.and_eq_true, beq_iff_eq, not_and]
        intro h2
        exfalso
        obtain ⟨i, hi, hz2⟩ := List.getElem_of_mem hz
        have hil : i < n := by simp at hi; omega
        rw [List.getElem_take] at hz2
        have := (List.pairwise_iff_getElem.1 (List.nodup_iff_pairwise_ne.1 hn)) i n (by simp; omega) (by simp; omega) hil
        simp only [List.getElem_map] at this
        rw [hz2, hy, h2, h] at this
        exact this rfl
      rw [this]; subst h; simp
    · rw [if_neg h, ih]
      have : (y.from_ == x) = false := by rw [beq_eq_false_iff_ne]; exact fun e => h e.symm
      simp [this]
theorem aliveKv_get {t : Int} {L : List Life} (hn : (L.map Life.from_).Nodup) (x : Int) : (kvGet (aliveKv t L) x).getD (.bool false) = .bool (aliveP L t x) := by
  have := aliveKv_to (t := t) hn x L.length (Nat.le_refl _)
  rwa [List.take_length] at this
theorem livesFrom_from (k : Int) : ∀ (l : List Step) (th : List Held) (out : List Life), (livesFrom k th out l).map Life.from_ = out.map Life.from_ ++ (l.filter fun s => s.do_ == 1).map Step.at_
  | [], th, out => by simp [livesFrom]
  | s :: l, th, out => by
    rw [livesFrom, livesFrom_from k l, List.map_append, List.map_map]
    have : (Life.from_ ∘ closeL (doP k th s).2.from_ s.at_) = Life.from_ := by
      funext x; simp only [Function.comp, closeL]; split <;> rfl
    rw [this]
    by_cases h : s.do_ = 1 <;> simp [h]
theorem incP_pairwise : ∀ {l : List Step}, incP l = true → l.Pairwise fun a b => a.at_ < b.at_
  | [], _ => .nil
  | [a], _ => by simp
  | a :: b :: l, h => by
    simp only [incP, Bool.and_eq_true, decide_eq_true_eq] at h
    have ih := incP_pairwise h.2
    refine List.pairwise_cons.2 ⟨fun x hx => ?_, ih⟩
    rcases List.mem_cons.1 hx with rfl | hx
    · exact h.1
    · have := (List.pairwise_cons.1 ih).1 x hx; omega
theorem livesOf_inc {k : Int} {l : List Step} (h : incP l = true) : ((livesOf k l).map Life.from_).Pairwise (· < ·) := by
  rw [livesOf, livesFrom_from, List.map_nil, List.nil_append]
  exact List.pairwise_map.2 ((incP_pairwise h).filter _)
theorem livesOf_nodup {k : Int} {l : List Step} (h : incP l = true) : ((livesOf k l).map Life.from_).Nodup :=
  List.nodup_iff_pairwise_ne.2 ((livesOf_inc h).imp fun h e => by rw [e] at h; exact absurd h (by simp))
theorem livesFrom_length (k : Int) : ∀ (l : List Step) (th : List Held) (out : List Life), (livesFrom k th out l).length ≤ out.length + l.length
  | [], th, out => by simp [livesFrom]
  | s :: l, th, out => by
    rw [livesFrom]
    have := livesFrom_length k l (doP k th s).1 (out.map (closeL (doP k th s).2.from_ s.at_) ++ if s.do_ = 1 then [⟨s.at_, 1001, s.key, s.val⟩] else [])
    refine Nat.le_trans this ?_
    simp only [List.length_append, List.length_map, List.length_cons]
    split <;> simp <;> omega
theorem livesOf_length (k : Int) (l : List Step) : (livesOf k l).length ≤ l.length := by have := livesFrom_length k l [] []; simpa [livesOf] using this
theorem filter_take_succ {α : Type} (p : α → Bool) {l : List α} {n : Nat} {x : α} (h : l[n]? = some x) : (l.take (n + 1)).filter p = (l.take n).filter p ++ if p x then [x] else [] := by
  rw [List.take_add_one, h, List.filter_append]
  by_cases hp : p x <;> simp [hp]
theorem filter_take_length {α : Type} (p : α → Bool) (l : List α) (n : Nat) : ((l.take n).filter p).length ≤ n :=
  Nat.le_trans (List.length_filter_le _ _) (by simp; omega)
theorem any_take_succ {α : Type} (p : α → Bool) {l : List α} {n : Nat} {x : α} (h : l[n]? = some x) : (l.take (n + 1)).any p = ((l.take n).any p || p x) := by
  rw [List.take_add_one, h, List.any_append]; simp
end Go.Proofs.YtkoeplbkeboklaaGreat
/- The reference's LivesOf and Lives. -/
set_option linter.unusedVariables false
set_option linter.unusedSimpArgs false
namespace Go.Proofs.YtkoeplbkeboklaaGreat
open Go.RowKit
theorem life_len (x : Life) : x.cells.length = 4 := rfl
theorem info_life : (Tryz.prog.info? 41).map (fun i => (i.zero, i.size, i.bytes)) = some (some (.agg #[.int .i64 0, .int .i64 0, .int .i64 0, .int .i64 0]), 4, 32) := by kernel_rfl
def livesP (k : Int) (l : List Step) : List Life × Int := if isLineP k l then (livesOf k l, 0) else ([], 2)
end Go.Proofs.YtkoeplbkeboklaaGreat
/- The reference's Slim. -/
set_option linter.unusedVariables false
set_option linter.unusedSimpArgs false
namespace Go.Proofs.YtkoeplbkeboklaaGreat
open Go.RowKit
theorem named_box1 (w : World) (cs : Array Value) (T : TypeId) {G : World → Prop}
    (h : ∀ W0, Below w.heap.size w W0 → W0.heap.size = w.heap.size + 1 → W0.heap[w.heap.size]? = some (.cells cs T (0, 0)) → G W0) : G (w.alloc (.cells cs T)) :=
  h _ ((Below.refl _ _).alloc (Nat.le_refl _) _) (by simp) (heap_alloc_new w _)
theorem named_any (w : World) (o : Obj) {G : World → Prop}
    (h : ∀ W0, Below w.heap.size w W0 → W0.heap.size = w.heap.size + 1 → W0.heap[w.heap.size]? = some o → G W0) : G (w.alloc o) :=
  h _ ((Below.refl _ _).alloc (Nat.le_refl _) _) (by simp) (heap_alloc_new w _)
theorem capT_min (t : Int) : (if 1000 < t then (1000 : Int) else t) = capT t := rfl
end Go.Proofs.YtkoeplbkeboklaaGreat
