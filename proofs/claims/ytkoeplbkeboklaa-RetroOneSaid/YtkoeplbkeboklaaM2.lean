/- My texts of layer 14, joined: R5, R1, P3, R6, P4, Base3, R9, R10, R8. -/
import Derived.Test.YtkoeplbkeboklaaM1
import Derived.Laws.StructEq
import Derived.Deep.RegionLaw
import Derived.Shelf.Abstract
import Derived.Deep.DeepCutAuto
/- retro: what is there, of whatever kind: an empty store, and a step on it. -/
set_option linter.unusedVariables false
set_option linter.unusedSimpArgs false
namespace Go.Proofs.Ytkoeplbkeboklaa
open Go.RowKit
/-- x is a store of kind k that holds th; its blocks are among S. -/
def StoreAt (k : Int) (w : World) (S : Nat → Prop) (x : Value) (th : List Held) : Prop :=
  (k = 1 ∧ ∃ B, x = .iface 129 (.pointer (some ⟨B, 0, none⟩)) ∧ ListAt 132 w S B th) ∨
  (k = 2 ∧ ∃ B, x = .iface 133 (.pointer (some ⟨B, 0, none⟩)) ∧ ListAt 134 w S B th) ∨
  (k ≠ 1 ∧ k ≠ 2 ∧ ∃ B, x = .iface 136 (.map (some B)) ∧ TableAt w S B th)
theorem listAt_lt {T : Nat} {w : World} {S : Nat → Prop} {B : Nat} {th : List Held} (h : ListAt T w S B th) : ListAt T w (fun i => S i ∧ i < w.heap.size) B th := by
  obtain ⟨hB, v, hb, hw⟩ := h
  exact ⟨⟨hB, (Array.getElem?_eq_some_iff.1 hb).1⟩, v, hb, winC_mono (winC_block hw) fun i hi => ⟨⟨hi.2.1.1, hi.2.2⟩, hi.2.1.2⟩⟩
theorem storeAt_lt {k : Int} {w : World} {S : Nat → Prop} {x : Value} {th : List Held} (h : StoreAt k w S x th) : StoreAt k w (fun i => S i ∧ i < w.heap.size) x th := by
  rcases h with ⟨h, B, e, hl⟩ | ⟨h, B, e, hl⟩ | ⟨h, h', B, e, hl⟩
  · exact .inl ⟨h, B, e, listAt_lt hl⟩
  · exact .inr (.inl ⟨h, B, e, listAt_lt hl⟩)
  · refine .inr (.inr ⟨h, h', B, e, ⟨hl.1, ?_⟩, hl.2⟩)
    obtain ⟨es, clock, hb, _⟩ := hl.2
    exact (Array.getElem?_eq_some_iff.1 hb).1
theorem listAt_mono {T : Nat} {w : World} {S R : Nat → Prop} {B : Nat} {th : List Held} (h : ListAt T w S B th) (hR : ∀ i, S i → R i) : ListAt T w R B th := by
  obtain ⟨hB, v, hb, hw⟩ := h
  exact ⟨hR B hB, v, hb, winC_mono hw fun i hi => ⟨hR i hi.1, hi.2⟩⟩
theorem storeAt_mono {k : Int} {w : World} {S R : Nat → Prop} {x : Value} {th : List Held} (h : StoreAt k w S x th) (hR : ∀ i, S i → R i) : StoreAt k w R x th := by
  rcases h with ⟨h, B, e, hl⟩ | ⟨h, B, e, hl⟩ | ⟨h, h', B, e, hl⟩
  · exact .inl ⟨h, B, e, listAt_mono hl hR⟩
  · exact .inr (.inl ⟨h, B, e, listAt_mono hl hR⟩)
  · exact .inr (.inr ⟨h, h', B, e, hR B hl.1, hl.2⟩)
theorem storeAt_move {k : Int} {w W : World} {S R : Nat → Prop} {x : Value} {th : List Held} (h : StoreAt k w S x th) (hf : Fr R w W) (hR : ∀ i, S i → ¬ R i) : StoreAt k W S x th := by
  rcases h with ⟨h, B, e, hl⟩ | ⟨h, B, e, hl⟩ | ⟨h, h', B, e, hl⟩
  · exact .inl ⟨h, B, e, listAt_move hl hf hR⟩
  · exact .inr (.inl ⟨h, B, e, listAt_move hl hf hR⟩)
  · exact .inr (.inr ⟨h, h', B, e, tableAt_move hl hf hR⟩)

theorem empty_any (k : Int) (w : World) : Calls Try.prog 81 #[.int .i64 k] w fun e w' => ∃ x, e = .returned x ∧ StoreAt k w' (fun i => w.heap.size ≤ i ∧ i < w'.heap.size) x [] ∧ Below w.heap.size w w' := by
  by_cases h1 : k = 1
  · have hb1 : (k == 1) = true := by simp [h1]
    have H1 := Lib.hid h1; clear h1
    go_enter Try.func81, Try.ntmps81
    go_wp2
    go_ret
    exact ⟨_, rfl, .inl ⟨H1.out, w.heap.size, rfl, ⟨Nat.le_refl _, by simp⟩, .slice none 0 0, heap_alloc_new w _, winC_nil _ _ _ _⟩, (Below.refl _ _).alloc (Nat.le_refl _) _⟩
  · have hb1 : (k == 1) = false := by simp [h1]
    by_cases h2 : k = 2
    · have hb2 : (k == 2) = true := by simp [h2]
      have H1 := Lib.hid h2; clear h1 h2
      go_enter Try.func81, Try.ntmps81
      go_wp2
      go_ret
      exact ⟨_, rfl, .inr (.inl ⟨H1.out, w.heap.size, rfl, ⟨Nat.le_refl _, by simp⟩, .slice none 0 0, heap_alloc_new w _, winC_nil _ _ _ _⟩), (Below.refl _ _).alloc (Nat.le_refl _) _⟩
    · have hb2 : (k == 2) = false := by simp [h2]
      have hmm := @run_makeMap Try.prog
      have H1 := Lib.hid (And.intro h1 h2); clear h1 h2
      go_enter Try.func81, Try.ntmps81
      go_wp2
      go_ret
      exact ⟨_, rfl, .inr (.inr ⟨H1.out.1, H1.out.2, w.heap.size, rfl, ⟨Nat.le_refl _, by simp⟩, #[], 0, heap_alloc_new w _, MapKept.stamped_empty 0, .refl _⟩), (Below.refl _ _).alloc (Nat.le_refl _) _⟩
theorem callM_stack (a : Addr) (s : Value) (w : World) : (callMethod (.iface 129 (.pointer (some a))) "afterword/retro.do" #[s]).run Try.prog w = .ok (.enter 149 #[.pointer (some a), s]) w := by kernel_rfl
theorem callM_queue (a : Addr) (s : Value) (w : World) : (callMethod (.iface 133 (.pointer (some a))) "afterword/retro.do" #[s]).run Try.prog w = .ok (.enter 151 #[.pointer (some a), s]) w := by kernel_rfl
theorem callM_table (r : Option Nat) (s : Value) (w : World) : (callMethod (.iface 136 (.map r)) "afterword/retro.do" #[s]).run Try.prog w = .ok (.enter 152 #[.map r, s]) w := by kernel_rfl
/-- What a step leaves. -/
def DoPost (k : Int) (S : Nat → Prop) (x : Value) (th : List Held) (s : Step) (w : World) (e : Ending) (w' : World) : Prop :=
  e = .returned (.agg #[.int .i64 (doP k th s).2.key, .int .i64 (doP k th s).2.val, .int .i64 (doP k th s).2.from_]) ∧ ∃ S', StoreAt k w' S' x (doP k th s).1 ∧ (∀ i, S' i → (S i ∨ w.heap.size ≤ i) ∧ i < w'.heap.size) ∧ Fr S w w'
theorem doPost_of {k : Int} {S : Nat → Prop} {x : Value} {th : List Held} {s : Step} {w : World} {e : Ending} {w' : World} {g : Held} {th' : List Held} (hd : doP k th s = (th', g)) (he : e = .returned (.agg #[.int .i64 g.key, .int .i64 g.val, .int .i64 g.from_]))
    (h : ∃ S', StoreAt k w' S' x th' ∧ (∀ i, S' i → S i ∨ w.heap.size ≤ i) ∧ Fr S w w') : DoPost k S x th s w e w' := by
  obtain ⟨S', h1, h2, h3⟩ := h
  refine ⟨by rw [hd]; exact he, fun i => S' i ∧ i < w'.heap.size, ?_, fun i hi => ⟨h2 i hi.1, hi.2⟩, h3⟩
  rw [hd]; exact storeAt_lt h1
theorem do_any (k : Int) (S : Nat → Prop) (x : Value) (th : List Held) (s : Step) (w : World) (h : StoreAt k w S x th) (hS : ∀ i, S i → i < w.heap.size) (hth : th.length < 1000000) :
    ∃ f args, (∀ w, (callMethod x "afterword/retro.do" #[.agg #[.int .i64 s.at_, .int .i64 s.do_, .int .i64 s.key, .int .i64 s.val]]).run Try.prog w = .ok (.enter f args) w) ∧ Calls Try.prog f args w (DoPost k S x th s w) := by
  rcases h with ⟨hk, B, rfl, hl⟩ | ⟨hk, B, rfl, hl⟩ | ⟨hk1, hk2, B, rfl, hl⟩
  · have up : ∀ {W : World} {l : List Held}, (∃ S', ListAt 132 W S' B l ∧ (∀ i, S' i → S i ∨ w.heap.size ≤ i) ∧ Fr S w W) → ∃ S', StoreAt k W S' (.iface 129 (.pointer (some ⟨B, 0, none⟩))) l ∧ (∀ i, S' i → S i ∨ w.heap.size ≤ i) ∧ Fr S w W :=
      fun ⟨S', h1, h2, h3⟩ => ⟨S', .inl ⟨hk, B, rfl, h1⟩, h2, h3⟩
    refine ⟨_, _, fun w => callM_stack _ _ w, ?_⟩
    by_cases hd : s.do_ = 1
    · exact (stack_in B S th s w hd hl hth).mono fun e w' h => doPost_of (g := noneH) (by simp [doP, hk, stackDo, hd]) h.1 (up h.2)
    · rcases List.eq_nil_or_concat th with rfl | ⟨l, hd0, rfl⟩
      · exact (stack_none B S s w hd hl hS).mono fun e w' h => doPost_of (g := noneH) (by simp [doP, hk, stackDo, hd]) h.1 (up h.2)
      · rw [List.concat_eq_append] at hl hth ⊢
        exact (stack_pop B S (l ++ [hd0]) l.length hd0 s w hd hl hS (by simp) (by simp at hth; omega) (by simp)).mono fun e w' h => doPost_of (g := hd0) (by simp [doP, hk, stackDo, hd]) h.1 (up h.2)
  · have up : ∀ {W : World} {l : List Held}, (∃ S', ListAt 134 W S' B l ∧ (∀ i, S' i → S i ∨ w.heap.size ≤ i) ∧ Fr S w W) → ∃ S', StoreAt k W S' (.iface 133 (.pointer (some ⟨B, 0, none⟩))) l ∧ (∀ i, S' i → S i ∨ w.heap.size ≤ i) ∧ Fr S w W :=
      fun ⟨S', h1, h2, h3⟩ => ⟨S', .inr (.inl ⟨hk, B, rfl, h1⟩), h2, h3⟩
    refine ⟨_, _, fun w => callM_queue _ _ w, ?_⟩
    by_cases hd : s.do_ = 1
    · exact (queue_in B S th s w hd hl hth).mono fun e w' h => doPost_of (g := noneH) (by simp [doP, hk, queueDo, hd]) h.1 (up h.2)
    · cases th with
      | nil => exact (queue_none B S s w hd hl hS).mono fun e w' h => doPost_of (g := noneH) (by simp [doP, hk, queueDo, hd]) h.1 (up h.2)
      | cons hd0 l => exact (queue_pop B S l hd0 s w hd hl hS (by simp at hth; omega)).mono fun e w' h => doPost_of (g := hd0) (by simp [doP, hk, queueDo, hd]) h.1 (up h.2)
  · have up : ∀ {W : World} {l : List Held}, MapOf W B (l.map heldKV) → Fr (fun i => i = B) w W → ∃ S', StoreAt k W S' (.iface 136 (.map (some B))) l ∧ (∀ i, S' i → S i ∨ w.heap.size ≤ i) ∧ Fr S w W :=
      fun h1 h2 => ⟨S, .inr (.inr ⟨hk1, hk2, B, rfl, hl.1, h1⟩), fun i hi => .inl hi, fr_mono h2 fun i e => e ▸ hl.1⟩
    refine ⟨_, _, fun w => callM_table _ _ w, ?_⟩
    have hdo : doP k th s = mapDo th s := by simp [doP, hk1, hk2]
    by_cases hd : s.do_ = 1
    · exact (table_in B th s w hd hl.2).mono fun e w' h => doPost_of hdo h.1 (up h.2.1 h.2.2)
    · exact (table_out B th s w hd hl.2).mono fun e w' h => doPost_of hdo h.1 (up h.2.1 h.2.2)
end Go.Proofs.Ytkoeplbkeboklaa
/- retro: the functions that compare two lists of pairs, spans, lives, steps: they return whether the two are equal. -/
set_option linter.unusedVariables false
set_option linter.unusedSimpArgs false
namespace Go.Proofs.Ytkoeplbkeboklaa
open Go.RowKit
def Pair.cells (s : Pair) : List Value := [.int .i64 s.key, .int .i64 s.val]
def Span.cells (s : Span) : List Value := [.int .i64 s.from_, .int .i64 s.to_]
def Life.cells (s : Life) : List Value := [.int .i64 s.from_, .int .i64 s.to_, .int .i64 s.key, .int .i64 s.val]

theorem neqPair (x y : Pair) (w : World) : (binOp .neq 60 (.agg #[.int .i64 x.key, .int .i64 x.val]) (.agg #[.int .i64 y.key, .int .i64 y.val])).run Try.prog w = .ok (.bool (!decide (x = y))) w := by
  have u3 := Try.underlying3
  have a3 := Try.isAgg3
  have z3 := Try.sizeOf3
  have hS : Try.prog.underlying 60 = some (.struct (Try.prog.fieldsOf 60)) := by kernel_rfl
  have hp : Try.prog.stoodInHeld 60 = false := by kernel_rfl
  rw [run_neq_struct, show (10000 : Nat) = 9999 + 1 from rfl, run_equalIn_agg w 9999 60 _ _ hS hp]
  simp only [Program.fieldsOf, Try.underlying60]
  go_simp
  obtain ⟨a, b⟩ := x
  obtain ⟨c, d⟩ := y
  by_cases h1 : a = c <;> by_cases h2 : b = d <;> simp [h1, h2]

theorem neqSpan (x y : Span) (w : World) : (binOp .neq 58 (.agg #[.int .i64 x.from_, .int .i64 x.to_]) (.agg #[.int .i64 y.from_, .int .i64 y.to_])).run Try.prog w = .ok (.bool (!decide (x = y))) w := by
  have u3 := Try.underlying3
  have a3 := Try.isAgg3
  have z3 := Try.sizeOf3
  have hS : Try.prog.underlying 58 = some (.struct (Try.prog.fieldsOf 58)) := by kernel_rfl
  have hp : Try.prog.stoodInHeld 58 = false := by kernel_rfl
  rw [run_neq_struct, show (10000 : Nat) = 9999 + 1 from rfl, run_equalIn_agg w 9999 58 _ _ hS hp]
  simp only [Program.fieldsOf, Try.underlying58]
  go_simp
  obtain ⟨a, b⟩ := x
  obtain ⟨c, d⟩ := y
  by_cases h1 : a = c <;> by_cases h2 : b = d <;> simp [h1, h2]

theorem neqLife (x y : Life) (w : World) : (binOp .neq 63 (.agg #[.int .i64 x.from_, .int .i64 x.to_, .int .i64 x.key, .int .i64 x.val]) (.agg #[.int .i64 y.from_, .int .i64 y.to_, .int .i64 y.key, .int .i64 y.val])).run Try.prog w = .ok (.bool (!decide (x = y))) w := by
  have u3 := Try.underlying3
  have a3 := Try.isAgg3
  have z3 := Try.sizeOf3
  have aP := Try.isAgg60
  have zP := Try.sizeOf60
  have hS : Try.prog.underlying 63 = some (.struct (Try.prog.fieldsOf 63)) := by kernel_rfl
  have hp : Try.prog.stoodInHeld 63 = false := by kernel_rfl
  have hSP : Try.prog.underlying 60 = some (.struct (Try.prog.fieldsOf 60)) := by kernel_rfl
  have hpP : Try.prog.stoodInHeld 60 = false := by kernel_rfl
  have uP := Try.underlying60
  rw [run_neq_struct, show (10000 : Nat) = 9998 + 1 + 1 from rfl, run_equalIn_agg w (9998 + 1) 63 _ _ hS hp]
  simp only [Program.fieldsOf, Try.underlying63] at hSP ⊢
  simp only [uP] at hSP
  have hq : ∀ a b c d w', (Op.equalIn 9999 60 (.agg #[.int .i64 a, .int .i64 b]) (.agg #[.int .i64 c, .int .i64 d])).run Try.prog w' = .ok (a == c && b == d) w' := by
    intro a b c d w'
    rw [show (9999 : Nat) = 9998 + 1 from rfl, run_equalIn_agg w' 9998 60 _ _ (by kernel_rfl) hpP]
    simp only [Program.fieldsOf, uP]
    go_simp
    by_cases h1 : a = c <;> by_cases h2 : b = d <;> simp [h1, h2]
  clear hSP hS hp uP
  go_simp
  obtain ⟨a, b, c, d⟩ := x
  obtain ⟨a', b', c', d'⟩ := y
  by_cases h1 : a = a' <;> by_cases h2 : b = b' <;> by_cases h3 : c = c' <;> by_cases h4 : d = d' <;> simp [h1, h2, h3, h4]
theorem neqStep (x y : Step) (w : World) : (binOp .neq 39 (.agg #[.int .i64 x.at_, .int .i64 x.do_, .int .i64 x.key, .int .i64 x.val]) (.agg #[.int .i64 y.at_, .int .i64 y.do_, .int .i64 y.key, .int .i64 y.val])).run Try.prog w = .ok (.bool (!decide (x = y))) w := by
  have u3 := Try.underlying3
  have a3 := Try.isAgg3
  have z3 := Try.sizeOf3
  have u37 := Try.underlying37
  have a37 := Try.isAgg37
  have z37 := Try.sizeOf37
  have hS : Try.prog.underlying 39 = some (.struct (Try.prog.fieldsOf 39)) := by kernel_rfl
  have hp : Try.prog.stoodInHeld 39 = false := by kernel_rfl
  rw [run_neq_struct, show (10000 : Nat) = 9999 + 1 from rfl, run_equalIn_agg w 9999 39 _ _ hS hp]
  simp only [Program.fieldsOf, Try.underlying39]
  go_simp
  obtain ⟨a, b, c, d⟩ := x
  obtain ⟨a', b', c', d'⟩ := y
  by_cases h1 : a = a' <;> by_cases h2 : b = b' <;> by_cases h3 : c = c' <;> by_cases h4 : d = d' <;> simp [h1, h2, h3, h4]

set_option maxHeartbeats 2000000 in
/-- differs: two rows are read and compared. -/
theorem differs_any (v1 v2 : Value) (xs ys : List Pair) (w : World) (h1 : Rd Pair.cells 2 w v1 xs) (h2 : Rd Pair.cells 2 w v2 ys) :
    Calls Try.prog 92 #[v1, v2] w fun e w' => e = .returned (.bool (!decide (xs = ys))) ∧ Below w.heap.size w w' := by
  obtain ⟨n1, a1, c1, rfl, r1⟩ := h1
  obtain ⟨n2, a2, c2, rfl, r2⟩ := h2
  by_cases hl : xs.length = ys.length
  · have hlb : ((xs.length : Int) != (ys.length : Int)) = false := by rw [hl]; simp
    have hlc : ((ys.length : Int) != (ys.length : Int)) = false := by simp
    rw [hl] at hlb ⊢
    have HL := Lib.hid hl
    have m1 : xs.length ≤ ys.length := by omega
    have m2 : ys.length ≤ xs.length := by omega
    clear hl n1
    have R1 := Lib.hid r1
    have R2 := Lib.hid r2
    clear r1 r2
    go_enter Try.func92, Try.ntmps92
    go_wp2
    go_loopw [13] (fun i W => ∃ n : Nat, i = .int .i64 n ∧ n ≤ ys.length ∧ eqTo xs ys n ∧ Below w.heap.size w W) (fun i _ => ys.length - (intOf i).toNat)
    case atStart => exact ⟨0, rfl, by omega, eqTo_zero _ _, Below.refl _ _⟩
    case round =>
      obtain ⟨n, rfl, hnl, hok, hB⟩ := hrel
      by_cases hlt' : n < ys.length
      · obtain ⟨b1, o1, rfl, hb1, rd1⟩ := R1.out (by omega)
        obtain ⟨b2, o2, rfl, hb2, rd2⟩ := R2.out (by omega)
        have hx := List.getElem?_eq_getElem (show n < xs.length by omega)
        have hy := List.getElem?_eq_getElem (show n < ys.length by omega)
        generalize xs[n] = x at hx
        generalize ys[n] = y at hy
        have hc1 : ∀ j u, x.cells[j]? = some u → wr.cell? ⟨b1, o1 + n * 2 + j, none⟩ = some u := fun j u hu => (hB.cell (p := ⟨b1, _, none⟩) hb1).trans (rd1 n x hx j u hu)
        have hc2 : ∀ j u, y.cells[j]? = some u → wr.cell? ⟨b2, o2 + n * 2 + j, none⟩ = some u := fun j u hu => (hB.cell (p := ⟨b2, _, none⟩) hb2).trans (rd2 n y hy j u hu)
        have HX := Lib.hid hx; clear hx
        have HY := Lib.hid hy; clear hy
        have q0 : wr.cell? ⟨b1, o1 + n * 2, none⟩ = some (.int .i64 x.key) := hc1 0 _ rfl
        have q1 := hc1 1 _ rfl
        have p0 : wr.cell? ⟨b2, o2 + n * 2, none⟩ = some (.int .i64 y.key) := hc2 0 _ rfl
        have p1 := hc2 1 _ rfl
        clear hc1 hc2 rd1 rd2 R1 R2
        have hne := fun w' => neqPair x y w'
        by_cases hxy : x = y
        · have hd : decide (x = y) = true := decide_eq_true hxy
          have HE := Lib.hid hxy; clear hxy
          go_wp2
          go_quiet (fail)
          go_wp2
          go_roundw
          case rel => exact ⟨n + 1, by go_num, by omega, eqTo_succ hok HX.out HY.out HE.out, below_drewN hB _⟩
          case measure => simp [intOf]; omega
        · have hd : decide (x = y) = false := decide_eq_false hxy
          have HE := Lib.hid hxy; clear hxy
          go_wp2
          go_quiet (fail)
          go_wp2
          go_ret
          exact ⟨by rw [eqTo_bad HX.out HY.out HE.out]; rfl, below_drewN hB _⟩
      · obtain rfl : n = ys.length := by omega
        clear R1 R2
        go_wp2
        go_ret
        exact ⟨by rw [eqTo_all HL.out hok]; rfl, hB⟩
  · have hlb : ((xs.length : Int) != (ys.length : Int)) = true := by simp; omega
    have e : decide (xs = ys) = false := decide_eq_false fun h => hl (by rw [h])
    rw [e]
    clear r1 r2 e hl
    go_enter Try.func92, Try.ntmps92
    go_wp2
    go_ret
    exact ⟨rfl, Below.refl _ _⟩

set_option maxHeartbeats 2000000 in
/-- samePairs: two rows are read and compared. -/
theorem samePairs_any (v1 v2 : Value) (xs ys : List Pair) (w : World) (h1 : Rd Pair.cells 2 w v1 xs) (h2 : Rd Pair.cells 2 w v2 ys) :
    Calls Try.prog 31 #[v1, v2] w fun e w' => e = .returned (.bool (decide (xs = ys))) ∧ Below w.heap.size w w' := by
  obtain ⟨n1, a1, c1, rfl, r1⟩ := h1
  obtain ⟨n2, a2, c2, rfl, r2⟩ := h2
  by_cases hl : xs.length = ys.length
  · have hlb : ((xs.length : Int) != (ys.length : Int)) = false := by rw [hl]; simp
    have hlc : ((ys.length : Int) != (ys.length : Int)) = false := by simp
    rw [hl] at hlb ⊢
    have HL := Lib.hid hl
    have m1 : xs.length ≤ ys.length := by omega
    have m2 : ys.length ≤ xs.length := by omega
    clear hl n1
    have R1 := Lib.hid r1
    have R2 := Lib.hid r2
    clear r1 r2
    go_enter Try.func31, Try.ntmps31
    go_wp2
    go_loopw [13] (fun i W => ∃ n : Nat, i = .int .i64 n ∧ n ≤ ys.length ∧ eqTo xs ys n ∧ Below w.heap.size w W) (fun i _ => ys.length - (intOf i).toNat)
    case atStart => exact ⟨0, rfl, by omega, eqTo_zero _ _, Below.refl _ _⟩
    case round =>
      obtain ⟨n, rfl, hnl, hok, hB⟩ := hrel
      by_cases hlt' : n < ys.length
      · obtain ⟨b1, o1, rfl, hb1, rd1⟩ := R1.out (by omega)
        obtain ⟨b2, o2, rfl, hb2, rd2⟩ := R2.out (by omega)
        have hx := List.getElem?_eq_getElem (show n < xs.length by omega)
        have hy := List.getElem?_eq_getElem (show n < ys.length by omega)
        generalize xs[n] = x at hx
        generalize ys[n] = y at hy
        have hc1 : ∀ j u, x.cells[j]? = some u → wr.cell? ⟨b1, o1 + n * 2 + j, none⟩ = some u := fun j u hu => (hB.cell (p := ⟨b1, _, none⟩) hb1).trans (rd1 n x hx j u hu)
        have hc2 : ∀ j u, y.cells[j]? = some u → wr.cell? ⟨b2, o2 + n * 2 + j, none⟩ = some u := fun j u hu => (hB.cell (p := ⟨b2, _, none⟩) hb2).trans (rd2 n y hy j u hu)
        have HX := Lib.hid hx; clear hx
        have HY := Lib.hid hy; clear hy
        have q0 : wr.cell? ⟨b1, o1 + n * 2, none⟩ = some (.int .i64 x.key) := hc1 0 _ rfl
        have q1 := hc1 1 _ rfl
        have p0 : wr.cell? ⟨b2, o2 + n * 2, none⟩ = some (.int .i64 y.key) := hc2 0 _ rfl
        have p1 := hc2 1 _ rfl
        clear hc1 hc2 rd1 rd2 R1 R2
        have hne := fun w' => neqPair x y w'
        by_cases hxy : x = y
        · have hd : decide (x = y) = true := decide_eq_true hxy
          have HE := Lib.hid hxy; clear hxy
          go_wp2
          go_quiet (fail)
          go_wp2
          go_roundw
          case rel => exact ⟨n + 1, by go_num, by omega, eqTo_succ hok HX.out HY.out HE.out, below_drewN hB _⟩
          case measure => simp [intOf]; omega
        · have hd : decide (x = y) = false := decide_eq_false hxy
          have HE := Lib.hid hxy; clear hxy
          go_wp2
          go_quiet (fail)
          go_wp2
          go_ret
          exact ⟨by rw [eqTo_bad HX.out HY.out HE.out]; rfl, below_drewN hB _⟩
      · obtain rfl : n = ys.length := by omega
        clear R1 R2
        go_wp2
        go_ret
        exact ⟨by rw [eqTo_all HL.out hok]; rfl, hB⟩
  · have hlb : ((xs.length : Int) != (ys.length : Int)) = true := by simp; omega
    have e : decide (xs = ys) = false := decide_eq_false fun h => hl (by rw [h])
    rw [e]
    clear r1 r2 e hl
    go_enter Try.func31, Try.ntmps31
    go_wp2
    go_ret
    exact ⟨rfl, Below.refl _ _⟩

set_option maxHeartbeats 2000000 in
/-- sameSpans: two rows are read and compared. -/
theorem sameSpans_any (v1 v2 : Value) (xs ys : List Span) (w : World) (h1 : Rd Span.cells 2 w v1 xs) (h2 : Rd Span.cells 2 w v2 ys) :
    Calls Try.prog 19 #[v1, v2] w fun e w' => e = .returned (.bool (decide (xs = ys))) ∧ Below w.heap.size w w' := by
  obtain ⟨n1, a1, c1, rfl, r1⟩ := h1
  obtain ⟨n2, a2, c2, rfl, r2⟩ := h2
  by_cases hl : xs.length = ys.length
  · have hlb : ((xs.length : Int) != (ys.length : Int)) = false := by rw [hl]; simp
    have hlc : ((ys.length : Int) != (ys.length : Int)) = false := by simp
    rw [hl] at hlb ⊢
    have HL := Lib.hid hl
    have m1 : xs.length ≤ ys.length := by omega
    have m2 : ys.length ≤ xs.length := by omega
    clear hl n1
    have R1 := Lib.hid r1
    have R2 := Lib.hid r2
    clear r1 r2
    go_enter Try.func19, Try.ntmps19
    go_wp2
    go_loopw [13] (fun i W => ∃ n : Nat, i = .int .i64 n ∧ n ≤ ys.length ∧ eqTo xs ys n ∧ Below w.heap.size w W) (fun i _ => ys.length - (intOf i).toNat)
    case atStart => exact ⟨0, rfl, by omega, eqTo_zero _ _, Below.refl _ _⟩
    case round =>
      obtain ⟨n, rfl, hnl, hok, hB⟩ := hrel
      by_cases hlt' : n < ys.length
      · obtain ⟨b1, o1, rfl, hb1, rd1⟩ := R1.out (by omega)
        obtain ⟨b2, o2, rfl, hb2, rd2⟩ := R2.out (by omega)
        have hx := List.getElem?_eq_getElem (show n < xs.length by omega)
        have hy := List.getElem?_eq_getElem (show n < ys.length by omega)
        generalize xs[n] = x at hx
        generalize ys[n] = y at hy
        have hc1 : ∀ j u, x.cells[j]? = some u → wr.cell? ⟨b1, o1 + n * 2 + j, none⟩ = some u := fun j u hu => (hB.cell (p := ⟨b1, _, none⟩) hb1).trans (rd1 n x hx j u hu)
        have hc2 : ∀ j u, y.cells[j]? = some u → wr.cell? ⟨b2, o2 + n * 2 + j, none⟩ = some u := fun j u hu => (hB.cell (p := ⟨b2, _, none⟩) hb2).trans (rd2 n y hy j u hu)
        have HX := Lib.hid hx; clear hx
        have HY := Lib.hid hy; clear hy
        have q0 : wr.cell? ⟨b1, o1 + n * 2, none⟩ = some (.int .i64 x.from_) := hc1 0 _ rfl
        have q1 := hc1 1 _ rfl
        have p0 : wr.cell? ⟨b2, o2 + n * 2, none⟩ = some (.int .i64 y.from_) := hc2 0 _ rfl
        have p1 := hc2 1 _ rfl
        clear hc1 hc2 rd1 rd2 R1 R2
        have hne := fun w' => neqSpan x y w'
        by_cases hxy : x = y
        · have hd : decide (x = y) = true := decide_eq_true hxy
          have HE := Lib.hid hxy; clear hxy
          go_wp2
          go_quiet (fail)
          go_wp2
          go_roundw
          case rel => exact ⟨n + 1, by go_num, by omega, eqTo_succ hok HX.out HY.out HE.out, below_drewN hB _⟩
          case measure => simp [intOf]; omega
        · have hd : decide (x = y) = false := decide_eq_false hxy
          have HE := Lib.hid hxy; clear hxy
          go_wp2
          go_quiet (fail)
          go_wp2
          go_ret
          exact ⟨by rw [eqTo_bad HX.out HY.out HE.out]; rfl, below_drewN hB _⟩
      · obtain rfl : n = ys.length := by omega
        clear R1 R2
        go_wp2
        go_ret
        exact ⟨by rw [eqTo_all HL.out hok]; rfl, hB⟩
  · have hlb : ((xs.length : Int) != (ys.length : Int)) = true := by simp; omega
    have e : decide (xs = ys) = false := decide_eq_false fun h => hl (by rw [h])
    rw [e]
    clear r1 r2 e hl
    go_enter Try.func19, Try.ntmps19
    go_wp2
    go_ret
    exact ⟨rfl, Below.refl _ _⟩

set_option maxHeartbeats 2000000 in
/-- sameLives: two rows are read and compared. -/
theorem sameLives_any (v1 v2 : Value) (xs ys : List Life) (w : World) (h1 : Rd Life.cells 4 w v1 xs) (h2 : Rd Life.cells 4 w v2 ys) :
    Calls Try.prog 18 #[v1, v2] w fun e w' => e = .returned (.bool (decide (xs = ys))) ∧ Below w.heap.size w w' := by
  obtain ⟨n1, a1, c1, rfl, r1⟩ := h1
  obtain ⟨n2, a2, c2, rfl, r2⟩ := h2
  by_cases hl : xs.length = ys.length
  · have hlb : ((xs.length : Int) != (ys.length : Int)) = false := by rw [hl]; simp
    have hlc : ((ys.length : Int) != (ys.length : Int)) = false := by simp
    rw [hl] at hlb ⊢
    have HL := Lib.hid hl
    have m1 : xs.length ≤ ys.length := by omega
    have m2 : ys.length ≤ xs.length := by omega
    clear hl n1
    have R1 := Lib.hid r1
    have R2 := Lib.hid r2
    clear r1 r2
    go_enter Try.func18, Try.ntmps18
    go_wp2
    go_loopw [13] (fun i W => ∃ n : Nat, i = .int .i64 n ∧ n ≤ ys.length ∧ eqTo xs ys n ∧ Below w.heap.size w W) (fun i _ => ys.length - (intOf i).toNat)
    case atStart => exact ⟨0, rfl, by omega, eqTo_zero _ _, Below.refl _ _⟩
    case round =>
      obtain ⟨n, rfl, hnl, hok, hB⟩ := hrel
      by_cases hlt' : n < ys.length
      · obtain ⟨b1, o1, rfl, hb1, rd1⟩ := R1.out (by omega)
        obtain ⟨b2, o2, rfl, hb2, rd2⟩ := R2.out (by omega)
        have hx := List.getElem?_eq_getElem (show n < xs.length by omega)
        have hy := List.getElem?_eq_getElem (show n < ys.length by omega)
        generalize xs[n] = x at hx
        generalize ys[n] = y at hy
        have hc1 : ∀ j u, x.cells[j]? = some u → wr.cell? ⟨b1, o1 + n * 4 + j, none⟩ = some u := fun j u hu => (hB.cell (p := ⟨b1, _, none⟩) hb1).trans (rd1 n x hx j u hu)
        have hc2 : ∀ j u, y.cells[j]? = some u → wr.cell? ⟨b2, o2 + n * 4 + j, none⟩ = some u := fun j u hu => (hB.cell (p := ⟨b2, _, none⟩) hb2).trans (rd2 n y hy j u hu)
        have HX := Lib.hid hx; clear hx
        have HY := Lib.hid hy; clear hy
        have q0 : wr.cell? ⟨b1, o1 + n * 4, none⟩ = some (.int .i64 x.from_) := hc1 0 _ rfl
        have q1 := hc1 1 _ rfl
        have q2 := hc1 2 _ rfl
        have q3 := hc1 3 _ rfl
        have p0 : wr.cell? ⟨b2, o2 + n * 4, none⟩ = some (.int .i64 y.from_) := hc2 0 _ rfl
        have p1 := hc2 1 _ rfl
        have p2 := hc2 2 _ rfl
        have p3 := hc2 3 _ rfl
        clear hc1 hc2 rd1 rd2 R1 R2
        have hne := fun w' => neqLife x y w'
        by_cases hxy : x = y
        · have hd : decide (x = y) = true := decide_eq_true hxy
          have HE := Lib.hid hxy; clear hxy
          go_wp2
          go_quiet (fail)
          go_wp2
          go_roundw
          case rel => exact ⟨n + 1, by go_num, by omega, eqTo_succ hok HX.out HY.out HE.out, below_drewN hB _⟩
          case measure => simp [intOf]; omega
        · have hd : decide (x = y) = false := decide_eq_false hxy
          have HE := Lib.hid hxy; clear hxy
          go_wp2
          go_quiet (fail)
          go_wp2
          go_ret
          exact ⟨by rw [eqTo_bad HX.out HY.out HE.out]; rfl, below_drewN hB _⟩
      · obtain rfl : n = ys.length := by omega
        clear R1 R2
        go_wp2
        go_ret
        exact ⟨by rw [eqTo_all HL.out hok]; rfl, hB⟩
  · have hlb : ((xs.length : Int) != (ys.length : Int)) = true := by simp; omega
    have e : decide (xs = ys) = false := decide_eq_false fun h => hl (by rw [h])
    rw [e]
    clear r1 r2 e hl
    go_enter Try.func18, Try.ntmps18
    go_wp2
    go_ret
    exact ⟨rfl, Below.refl _ _⟩

end Go.Proofs.Ytkoeplbkeboklaa
/- The plain side of retro: what is there in a line at a time. No program in sight. -/
set_option linter.unusedVariables false
set_option linter.unusedSimpArgs false
namespace Go.Proofs.Ytkoeplbkeboklaa
def stepT (k t : Int) (th : List Held) (s : Step) : List Held := if s.at_ ≤ t then (doP k th s).1 else th
def runP (k t : Int) (l : List Step) : List Held := l.foldl (stepT k t) []
def pairH (h : Held) : Pair := ⟨h.key, h.val⟩
def thereP (k : Int) (l : List Step) (t : Int) : List Pair := (runP k t l).map pairH
theorem runP_snoc (k t : Int) (l : List Step) (s : Step) : runP k t (l ++ [s]) = stepT k t (runP k t l) s := by simp [runP, List.foldl_append]
theorem runP_take {k t : Int} {l : List Step} {n : Nat} {s : Step} (h : l[n]? = some s) : runP k t (l.take (n + 1)) = stepT k t (runP k t (l.take n)) s := by
  rw [List.take_add_one, h]; exact runP_snoc _ _ _ _
theorem insH_length (h : Held) : ∀ l : List Held, (insH h l).length = l.length + 1
  | [] => rfl
  | x :: l => by simp only [insH]; split <;> simp [insH_length h l]
theorem doP_length (k : Int) (th : List Held) (s : Step) : (doP k th s).1.length ≤ th.length + 1 := by
  unfold doP stackDo queueDo mapDo
  split
  · split
    · simp
    · split <;> simp
      omega
  · split
    · split
      · simp
      · split <;> simp
        omega
    · have := List.length_filter_le (fun h : Held => h.key != s.key) th
      dsimp only
      split
      · rw [insH_length]; omega
      · omega
theorem runP_length (k t : Int) (l : List Step) (n : Nat) : (runP k t (l.take n)).length ≤ n := by
  induction n with
  | zero => simp [runP]
  | succ n ih =>
    cases h : l[n]? with
    | none => rw [List.take_add_one, h]; simp; omega
    | some s =>
      rw [runP_take h]
      have := doP_length k (runP k t (l.take n)) s
      unfold stepT
      split <;> omega
/-- The keys increase. -/
def sortH (l : List Held) : Prop := l.Pairwise fun a b => a.key < b.key
theorem insH_mem {h : Held} : ∀ {l : List Held} {x : Held}, x ∈ insH h l → x = h ∨ x ∈ l
  | [], x, hx => by simp [insH] at hx; exact .inl hx
  | y :: l, x, hx => by
    simp only [insH] at hx
    split at hx
    · rcases List.mem_cons.1 hx with h | h
      · exact .inl h
      · exact .inr h
    · rcases List.mem_cons.1 hx with h | h
      · exact .inr (by rw [h]; simp)
      · rcases insH_mem h with h | h
        · exact .inl h
        · exact .inr (List.mem_cons_of_mem _ h)
theorem insH_sort {h : Held} : ∀ {l : List Held}, sortH l → (∀ x ∈ l, x.key ≠ h.key) → sortH (insH h l)
  | [], _, _ => by simp [insH, sortH]
  | y :: l, hs, hn => by
    obtain ⟨h1, h2⟩ := List.pairwise_cons.1 hs
    simp only [insH]
    split
    · rename_i hlt
      refine List.pairwise_cons.2 ⟨fun x hx => ?_, hs⟩
      rcases List.mem_cons.1 hx with rfl | hx
      · exact hlt
      · have := h1 x hx; omega
    · rename_i hlt
      have hne := hn y (by simp)
      refine List.pairwise_cons.2 ⟨fun x hx => ?_, insH_sort h2 fun x hx => hn x (by simp [hx])⟩
      rcases insH_mem hx with rfl | hx
      · omega
      · exact h1 x hx
theorem mapDo_sort {th : List Held} (s : Step) (h : sortH th) : sortH (mapDo th s).1 := by
  have hf : sortH (th.filter fun h => h.key != s.key) := h.filter _
  unfold mapDo
  dsimp only
  split
  · exact insH_sort hf fun x hx => by simpa [heldOf] using (List.mem_filter.1 hx).2
  · exact hf
theorem runP_sort {k t : Int} (h1 : k ≠ 1) (h2 : k ≠ 2) (l : List Step) : sortH (runP k t l) := by
  suffices ∀ th, sortH th → sortH (l.foldl (stepT k t) th) from this [] List.Pairwise.nil
  induction l with
  | nil => exact fun _ h => h
  | cons s l ih =>
    intro th h
    refine ih _ ?_
    unfold stepT
    split
    · rw [show doP k th s = mapDo th s by simp [doP, h1, h2]]; exact mapDo_sort s h
    · exact h
end Go.Proofs.Ytkoeplbkeboklaa
/- retro: what is there, as a list. -/
set_option linter.unusedVariables false
set_option linter.unusedSimpArgs false
namespace Go.Proofs.Ytkoeplbkeboklaa
open Go.RowKit

theorem pair_len (x : Pair) : x.cells.length = 2 := rfl
theorem info_pair : (Try.prog.info? 60).map (fun i => (i.zero, i.size, i.bytes)) = some (some (.agg #[.int .i64 0, .int .i64 0]), 2, 16) := by kernel_rfl
theorem ta_stack_stack (a : Addr) (w : World) : (Instr.typeAssert (.iface 129 (.pointer (some a))) 111 129 true).run Try.prog w = .ok (.tuple #[.pointer (some a), .bool true]) w := by kernel_rfl
theorem ta_stack_queue (a : Addr) (w : World) : (Instr.typeAssert (.iface 129 (.pointer (some a))) 111 133 true).run Try.prog w = .ok (.tuple #[.pointer none, .bool false]) w := by kernel_rfl
theorem ta_stack_table (a : Addr) (w : World) : (Instr.typeAssert (.iface 129 (.pointer (some a))) 111 136 true).run Try.prog w = .ok (.tuple #[.map none, .bool false]) w := by kernel_rfl
theorem ta_queue_stack (a : Addr) (w : World) : (Instr.typeAssert (.iface 133 (.pointer (some a))) 111 129 true).run Try.prog w = .ok (.tuple #[.pointer none, .bool false]) w := by kernel_rfl
theorem ta_queue_queue (a : Addr) (w : World) : (Instr.typeAssert (.iface 133 (.pointer (some a))) 111 133 true).run Try.prog w = .ok (.tuple #[.pointer (some a), .bool true]) w := by kernel_rfl
theorem ta_queue_table (a : Addr) (w : World) : (Instr.typeAssert (.iface 133 (.pointer (some a))) 111 136 true).run Try.prog w = .ok (.tuple #[.map none, .bool false]) w := by kernel_rfl
theorem ta_table_stack (a : Option Nat) (w : World) : (Instr.typeAssert (.iface 136 (.map a)) 111 129 true).run Try.prog w = .ok (.tuple #[.pointer none, .bool false]) w := by kernel_rfl
theorem ta_table_queue (a : Option Nat) (w : World) : (Instr.typeAssert (.iface 136 (.map a)) 111 133 true).run Try.prog w = .ok (.tuple #[.pointer none, .bool false]) w := by kernel_rfl
theorem ta_table_table (a : Option Nat) (w : World) : (Instr.typeAssert (.iface 136 (.map a)) 111 136 true).run Try.prog w = .ok (.tuple #[.map a, .bool true]) w := by kernel_rfl
set_option maxHeartbeats 2000000 in
theorem listed_stack (B : Nat) (S : Nat → Prop) (th : List Held) (w : World) (hl : ListAt 132 w S B th) (hS : ∀ i, S i → i < w.heap.size) (hth : th.length < 1000000) :
    Calls Try.prog 94 #[.iface 129 (.pointer (some ⟨B, 0, none⟩))] w fun e w' => ∃ v, e = .returned v ∧ Win Pair.cells 2 60 w' v (fun i => w.heap.size ≤ i) (th.map pairH) ∧ Below w.heap.size w w' := by
    obtain ⟨hSB, v, hB, hW⟩ := hl
    have hrd := win_rd held_len hW
    obtain ⟨a, c, rfl, hnc, hnm⟩ := winC_slice hW
    have hc : w.cell? ⟨B, 0, none⟩ = some (.slice a th.length c) := by rw [cell_of_row w B 0 _ _ _ hB]; rfl
    have HRD := Lib.hid hrd
    have HBL := Lib.hid (Below.refl w.heap.size w)
    clear hB hW hrd hS
    have t1 := ta_stack_stack
    go_enter Try.func94, Try.ntmps94
    go_wp2
    go_loopw [44, 9] (fun i v W => ∃ (n : Nat) (a1 : Option Addr) (c1 : Nat), i = .int .i64 n ∧ v = .slice a1 n c1 ∧ n ≤ th.length ∧ Win Pair.cells 2 60 W (.slice a1 n c1) (fun j => w.heap.size ≤ j ∧ some j ≠ (Value.slice a th.length c).ownBlock) ((th.take n).map pairH) ∧ Rd Held.cells 3 W (.slice a th.length c) th ∧ Below w.heap.size w W) (fun i _ _ => th.length - (intOf i).toNat)
    case atStart => exact ⟨0, none, 0, rfl, rfl, by omega, winC_nil 2 60 _ _, HRD.out, HBL.out⟩
    case round =>
      obtain ⟨n, a1, c1, rfl, rfl, hnl, hwin, hrd, hB⟩ := hrel
      by_cases hlt' : n < th.length
      · have hx := List.getElem?_eq_getElem hlt'
        generalize th[n] = h at hx
        obtain ⟨b, off, rfl, hbl, hc⟩ := rd_at hrd hx
        have q0 : wr.cell? ⟨b, off + n * 3, none⟩ = some (.int .i64 h.key) := hc 0 _ rfl
        have q1 := hc 1 _ rfl
        have q2 := hc 2 _ rfl
        clear hc
        have hn1 : ((th.take n).map pairH).length = n := by simp; omega
        have hW1 : WinC 2 60 wr (.slice a1 n c1) (fun j => (w.heap.size ≤ j ∧ some j ≠ (Value.slice (some ⟨b, off, none⟩) th.length c).ownBlock) ∧ j < wr.heap.size) n (((th.take n).map pairH).flatMap Pair.cells) := by
          have := winC_mono (winC_block hwin) (T := fun j => (w.heap.size ≤ j ∧ some j ≠ (Value.slice (some ⟨b, off, none⟩) th.length c).ownBlock) ∧ j < wr.heap.size) fun i hi => hi.2
          rwa [hn1] at this
        have hW2 := fun o1 o2 => winC_move hW1 (fr_of_below (S := fun _ => False) (((Below.refl wr.heap.size wr).alloc (Nat.le_refl _) o1).alloc (by simp) o2)) (fun _ _ h => h)
        have HX := Lib.hid (And.intro hx (And.intro hn1 (And.intro hW1 (And.intro hrd hwin))))
        have HW2 := Lib.hid hW2
        clear hx hn1 hW1 hrd hwin hW2
        go_wp2_with (at_builtin; (refine wpList_append_win _ (by rfl) _ _ _ (by rfl) 60 2 16 _ Try.underlying49 info_pair rfl (by decide) _ _ n _ (by rfl) (HW2.out _ _) _ _ _ [.int .i64 h.key, .int .i64 h.val] (by rfl) (by rfl) (news2 wr _ _ _) (by simp [Value.oneCell']) (by decide) (by unfold maxLen; omega) (by omega) ?_); intro v1 w1 hwin1 hfr1 hsz1; obtain ⟨a2, c2, rfl, hc2, hm2⟩ := winC_slice hwin1)
        have hb1 : Below wr.heap.size wr ((wr.alloc (.cells #[.int .i64 h.key, .int .i64 h.val, .int .i64 h.from_] 86)).alloc (.cells #[.int .i64 h.key, .int .i64 h.val] 60)) := ((Below.refl wr.heap.size wr).alloc (Nat.le_refl _) _).alloc (by simp) _
        have hob : ∀ i, some i = (Value.slice a1 n c1).ownBlock → w.heap.size ≤ i ∧ some i ≠ (Value.slice (some ⟨b, off, none⟩) th.length c).ownBlock := fun i hi => (winC_ob HX.out.2.2.1 i hi).1.1
        have hF : Fr (fun i => some i = (Value.slice a1 n c1).ownBlock) wr w1 := fr_trans (fr_of_below hb1) hfr1 fun _ _ h => h
        go_roundw
        case rel =>
          refine ⟨n + 1, a2, c2, by go_num, rfl, by omega, ?_, rd_move HX.out.2.2.2.1 hF (fun i hi h => (hob i h).2 hi), ?_⟩
          · have e1 : ((th.take (n + 1)).map pairH) = (th.take n).map pairH ++ [pairH h] := by rw [List.take_add_one, HX.out.1]; simp
            refine (?_ : WinC _ _ _ _ _ _ _)
            rw [e1, List.length_append, HX.out.2.1, List.flatMap_append]
            exact winC_mono hwin1 fun i hi => by
              have hs := hB.size
              rcases hi with hi | hi
              · exact hi.1.1
              · simp at hi
                refine ⟨by omega, fun e => ?_⟩
                have : i = b := by simpa [Value.ownBlock] using e
                omega
          · exact hB.trans (below_of_fr hF hB.size fun i hi => (hob i hi).1)
        case measure => simp [intOf]; omega
      · obtain rfl : n = th.length := by omega
        go_wp2
        go_ret
        refine ⟨_, rfl, ?_, hB⟩
        rw [List.take_length] at hwin
        exact winC_mono hwin fun i hi => hi.1

set_option maxHeartbeats 2000000 in
theorem listed_queue (B : Nat) (S : Nat → Prop) (th : List Held) (w : World) (hl : ListAt 134 w S B th) (hS : ∀ i, S i → i < w.heap.size) (hth : th.length < 1000000) :
    Calls Try.prog 94 #[.iface 133 (.pointer (some ⟨B, 0, none⟩))] w fun e w' => ∃ v, e = .returned v ∧ Win Pair.cells 2 60 w' v (fun i => w.heap.size ≤ i) (th.map pairH) ∧ Below w.heap.size w w' := by
    obtain ⟨hSB, v, hB, hW⟩ := hl
    have hrd := win_rd held_len hW
    obtain ⟨a, c, rfl, hnc, hnm⟩ := winC_slice hW
    have hc : w.cell? ⟨B, 0, none⟩ = some (.slice a th.length c) := by rw [cell_of_row w B 0 _ _ _ hB]; rfl
    have HRD := Lib.hid hrd
    have HBL := Lib.hid (Below.refl w.heap.size w)
    clear hB hW hrd hS
    have t1 := ta_queue_stack
    have t2 := ta_queue_queue
    go_enter Try.func94, Try.ntmps94
    go_wp2
    go_loopw [44, 9] (fun i v W => ∃ (n : Nat) (a1 : Option Addr) (c1 : Nat), i = .int .i64 n ∧ v = .slice a1 n c1 ∧ n ≤ th.length ∧ Win Pair.cells 2 60 W (.slice a1 n c1) (fun j => w.heap.size ≤ j ∧ some j ≠ (Value.slice a th.length c).ownBlock) ((th.take n).map pairH) ∧ Rd Held.cells 3 W (.slice a th.length c) th ∧ Below w.heap.size w W) (fun i _ _ => th.length - (intOf i).toNat)
    case atStart => exact ⟨0, none, 0, rfl, rfl, by omega, winC_nil 2 60 _ _, HRD.out, HBL.out⟩
    case round =>
      obtain ⟨n, a1, c1, rfl, rfl, hnl, hwin, hrd, hB⟩ := hrel
      by_cases hlt' : n < th.length
      · have hx := List.getElem?_eq_getElem hlt'
        generalize th[n] = h at hx
        obtain ⟨b, off, rfl, hbl, hc⟩ := rd_at hrd hx
        have q0 : wr.cell? ⟨b, off + n * 3, none⟩ = some (.int .i64 h.key) := hc 0 _ rfl
        have q1 := hc 1 _ rfl
        have q2 := hc 2 _ rfl
        clear hc
        have hn1 : ((th.take n).map pairH).length = n := by simp; omega
        have hW1 : WinC 2 60 wr (.slice a1 n c1) (fun j => (w.heap.size ≤ j ∧ some j ≠ (Value.slice (some ⟨b, off, none⟩) th.length c).ownBlock) ∧ j < wr.heap.size) n (((th.take n).map pairH).flatMap Pair.cells) := by
          have := winC_mono (winC_block hwin) (T := fun j => (w.heap.size ≤ j ∧ some j ≠ (Value.slice (some ⟨b, off, none⟩) th.length c).ownBlock) ∧ j < wr.heap.size) fun i hi => hi.2
          rwa [hn1] at this
        have hW2 := fun o1 o2 => winC_move hW1 (fr_of_below (S := fun _ => False) (((Below.refl wr.heap.size wr).alloc (Nat.le_refl _) o1).alloc (by simp) o2)) (fun _ _ h => h)
        have HX := Lib.hid (And.intro hx (And.intro hn1 (And.intro hW1 (And.intro hrd hwin))))
        have HW2 := Lib.hid hW2
        clear hx hn1 hW1 hrd hwin hW2
        go_wp2_with (at_builtin; (refine wpList_append_win _ (by rfl) _ _ _ (by rfl) 60 2 16 _ Try.underlying49 info_pair rfl (by decide) _ _ n _ (by rfl) (HW2.out _ _) _ _ _ [.int .i64 h.key, .int .i64 h.val] (by rfl) (by rfl) (news2 wr _ _ _) (by simp [Value.oneCell']) (by decide) (by unfold maxLen; omega) (by omega) ?_); intro v1 w1 hwin1 hfr1 hsz1; obtain ⟨a2, c2, rfl, hc2, hm2⟩ := winC_slice hwin1)
        have hb1 : Below wr.heap.size wr ((wr.alloc (.cells #[.int .i64 h.key, .int .i64 h.val, .int .i64 h.from_] 86)).alloc (.cells #[.int .i64 h.key, .int .i64 h.val] 60)) := ((Below.refl wr.heap.size wr).alloc (Nat.le_refl _) _).alloc (by simp) _
        have hob : ∀ i, some i = (Value.slice a1 n c1).ownBlock → w.heap.size ≤ i ∧ some i ≠ (Value.slice (some ⟨b, off, none⟩) th.length c).ownBlock := fun i hi => (winC_ob HX.out.2.2.1 i hi).1.1
        have hF : Fr (fun i => some i = (Value.slice a1 n c1).ownBlock) wr w1 := fr_trans (fr_of_below hb1) hfr1 fun _ _ h => h
        go_roundw
        case rel =>
          refine ⟨n + 1, a2, c2, by go_num, rfl, by omega, ?_, rd_move HX.out.2.2.2.1 hF (fun i hi h => (hob i h).2 hi), ?_⟩
          · have e1 : ((th.take (n + 1)).map pairH) = (th.take n).map pairH ++ [pairH h] := by rw [List.take_add_one, HX.out.1]; simp
            refine (?_ : WinC _ _ _ _ _ _ _)
            rw [e1, List.length_append, HX.out.2.1, List.flatMap_append]
            exact winC_mono hwin1 fun i hi => by
              have hs := hB.size
              rcases hi with hi | hi
              · exact hi.1.1
              · simp at hi
                refine ⟨by omega, fun e => ?_⟩
                have : i = b := by simpa [Value.ownBlock] using e
                omega
          · exact hB.trans (below_of_fr hF hB.size fun i hi => (hob i hi).1)
        case measure => simp [intOf]; omega
      · obtain rfl : n = th.length := by omega
        go_wp2
        go_ret
        refine ⟨_, rfl, ?_, hB⟩
        rw [List.take_length] at hwin
        exact winC_mono hwin fun i hi => hi.1

end Go.Proofs.Ytkoeplbkeboklaa
/- The plain side of retro: what the reference does with a step, and that it is the same. No program in sight. -/
set_option linter.unusedVariables false
set_option linter.unusedSimpArgs false
namespace Go.Proofs.Ytkoeplbkeboklaa
/-- Where the first one with a key stands. -/
def keyAt (key : Int) : List Held → Nat → Option Nat
  | [], _ => none
  | h :: l, i => if h.key = key then some i else keyAt key l (i + 1)
def goneP (k : Int) (th : List Held) (s : Step) : Option Nat :=
  if k = 3 then keyAt s.key th 0 else if s.do_ = 1 ∨ th.length = 0 then none else if k = 1 then some (th.length - 1) else some 0
/-- How many there are, from the front, with smaller keys. -/
def smaller (key : Int) : List Held → Nat
  | [] => 0
  | h :: l => if h.key < key then smaller key l + 1 else 0
theorem keyAt_spec (key : Int) : ∀ (l : List Held) (i : Nat), (keyAt key l i = none ∧ ∀ h ∈ l, h.key ≠ key) ∨ ∃ j h, keyAt key l i = some (i + j) ∧ l[j]? = some h ∧ h.key = key ∧ ∀ q y, q < j → l[q]? = some y → y.key ≠ key
  | [], i => .inl ⟨rfl, by simp⟩
  | h :: l, i => by
    by_cases e : h.key = key
    · exact .inr ⟨0, h, by simp [keyAt, e], rfl, e, fun q y hq => by omega⟩
    · rcases keyAt_spec key l (i + 1) with ⟨h1, h2⟩ | ⟨j, x, h1, h2, h3, h4⟩
      · refine .inl ⟨by simp [keyAt, e, h1], fun y hy => ?_⟩
        rcases List.mem_cons.1 hy with rfl | hy
        · exact e
        · exact h2 y hy
      · refine .inr ⟨j + 1, x, by simp [keyAt, e, h1]; omega, by simpa using h2, h3, fun q y hq hy => ?_⟩
        cases q with
        | zero => simp at hy; exact hy ▸ e
        | succ q => exact h4 q y (by omega) (by simpa using hy)
theorem find_at {key : Int} : ∀ {l : List Held} {j : Nat} {h : Held}, l[j]? = some h → h.key = key → (∀ q y, q < j → l[q]? = some y → y.key ≠ key) → l.find? (fun x => x.key == key) = some h
  | [], j, h, hj, _, _ => by simp at hj
  | x :: l, 0, h, hj, he, _ => by
    simp only [List.getElem?_cons_zero, Option.some.injEq] at hj
    subst hj
    simp [he]
  | x :: l, j + 1, h, hj, he, hn => by
    have h0 := hn 0 x (by omega) rfl
    rw [List.find?_cons]
    have : (x.key == key) = false := by simpa using h0
    rw [this]
    exact find_at (by simpa using hj) he fun q y hq hy => hn (q + 1) y (by omega) (by simpa using hy)
theorem filter_at {key : Int} {l : List Held} {j : Nat} {h : Held} (hs : sortH l) (hj : l[j]? = some h) (he : h.key = key) : (l.filter fun x => x.key != key) = l.take j ++ l.drop (j + 1) := by
  obtain ⟨hlt, rfl⟩ := List.getElem?_eq_some_iff.1 hj
  have hl : l = l.take j ++ l[j] :: l.drop (j + 1) := by rw [List.getElem_cons_drop, List.take_append_drop]
  have h1 : ∀ x ∈ l.take j, x.key < key := by
    intro x hx
    obtain ⟨i, hi, rfl⟩ := List.getElem_of_mem hx
    rw [List.getElem_take]
    rw [List.length_take] at hi
    rw [← he]
    exact List.pairwise_iff_getElem.1 hs i j (by omega) hlt (by omega)
  have h2 : ∀ x ∈ l.drop (j + 1), key < x.key := by
    intro x hx
    obtain ⟨i, hi, rfl⟩ := List.getElem_of_mem hx
    rw [List.getElem_drop]
    rw [List.length_drop] at hi
    rw [← he]
    exact List.pairwise_iff_getElem.1 hs j (j + 1 + i) hlt (by omega) (by omega)
  have e : (l.filter fun x => x.key != key) = ((l.take j ++ l[j] :: l.drop (j + 1)).filter fun x => x.key != key) := by rw [← hl]
  rw [e, List.filter_append, List.filter_cons]
  have e3 : (l[j].key != key) = false := by simpa using he
  rw [e3]
  simp only [Bool.false_eq_true, if_false]
  congr 1
  · exact List.filter_eq_self.2 fun x hx => by have := h1 x hx; simp; omega
  · exact List.filter_eq_self.2 fun x hx => by have := h2 x hx; simp; omega
theorem smaller_le (key : Int) : ∀ l : List Held, smaller key l ≤ l.length
  | [] => by simp [smaller]
  | h :: l => by simp only [smaller]; split <;> simp; exact smaller_le key l
theorem smaller_lt {key : Int} : ∀ {l : List Held} {i : Nat} {h : Held}, i < smaller key l → l[i]? = some h → h.key < key
  | [], i, h, hi, _ => by simp [smaller] at hi
  | x :: l, i, h, hi, hx => by
    simp only [smaller] at hi
    split at hi
    · rename_i hlt
      cases i with
      | zero => simp at hx; exact hx ▸ hlt
      | succ i => exact smaller_lt (l := l) (i := i) (by omega) (by simpa using hx)
    · omega
theorem smaller_at {key : Int} : ∀ {l : List Held} {h : Held}, l[smaller key l]? = some h → ¬ h.key < key
  | [], h, hx => by simp at hx
  | x :: l, h, hx => by
    simp only [smaller] at hx
    split at hx
    · exact smaller_at (by simpa using hx)
    · simp at hx; subst hx; assumption
theorem insH_at (h : Held) : ∀ {l : List Held}, (∀ x ∈ l, x.key ≠ h.key) → insH h l = l.take (smaller h.key l) ++ h :: l.drop (smaller h.key l)
  | [], _ => by simp [insH, smaller]
  | x :: l, hn => by
    have hx := hn x (by simp)
    simp only [insH, smaller]
    by_cases hlt : x.key < h.key
    · rw [if_neg (by omega), if_pos hlt, List.take_succ_cons, List.drop_succ_cons, List.cons_append, insH_at h fun y hy => hn y (by simp [hy])]
    · rw [if_pos (by omega), if_neg hlt]; simp
/-- What is left when what is gone is taken out, and when it came. -/
def restP (g : Option Nat) (th : List Held) : List Held := match g with | none => th | some j => th.take j ++ th.drop (j + 1)
def fromP (g : Option Nat) (th : List Held) : Int := match g with | none => -1 | some j => (th.getD j noneH).from_
def placeP (k : Int) (s : Step) (r : List Held) : Nat := if k = 3 then smaller s.key r else r.length
theorem goneP_lt {k : Int} {th : List Held} {s : Step} {j : Nat} (h : goneP k th s = some j) : j < th.length := by
  unfold goneP at h
  split at h
  · rcases keyAt_spec s.key th 0 with ⟨h1, _⟩ | ⟨q, x, h1, h2, _⟩
    · rw [h1] at h; cases h
    · rw [h1] at h
      have := (List.getElem?_eq_some_iff.1 h2).1
      injection h with h; omega
  · split at h
    · cases h
    · split at h <;> injection h with h <;> omega
theorem doP_ref {k : Int} {th : List Held} {s : Step} (hk : 1 ≤ k ∧ k ≤ 3) (hd : s.do_ = 1 ∨ s.do_ = 2) (hs : k = 3 → sortH th) :
    (doP k th s).2.from_ = fromP (goneP k th s) th ∧
    (doP k th s).1 = if s.do_ = 2 then restP (goneP k th s) th else (restP (goneP k th s) th).take (placeP k s (restP (goneP k th s) th)) ++ heldOf s :: (restP (goneP k th s) th).drop (placeP k s (restP (goneP k th s) th)) := by
  by_cases h3 : k = 3
  · subst h3
    have hst := hs rfl
    rw [show doP 3 th s = mapDo th s by simp [doP]]
    have hg : goneP 3 th s = keyAt s.key th 0 := by simp [goneP]
    rw [hg]
    have hrest : restP (keyAt s.key th 0) th = th.filter fun h => h.key != s.key := by
      rcases keyAt_spec s.key th 0 with ⟨h1, h2⟩ | ⟨j, x, h1, h2, h3, h4⟩
      · rw [h1]
        exact (List.filter_eq_self.2 fun x hx => by simpa using h2 x hx).symm
      · rw [h1, Nat.zero_add]
        exact (filter_at hst h2 h3).symm
    have hfrom : ((th.find? fun h => h.key == s.key).getD noneH).from_ = fromP (keyAt s.key th 0) th := by
      rcases keyAt_spec s.key th 0 with ⟨h1, h2⟩ | ⟨j, x, h1, h2, h3, h4⟩
      · rw [h1, show (th.find? fun h => h.key == s.key) = none from List.find?_eq_none.2 fun x hx => by simpa using h2 x hx]
        rfl
      · rw [h1, find_at h2 h3 h4, Nat.zero_add]
        simp [fromP, List.getD_eq_getElem?_getD, h2]
    refine ⟨hfrom, ?_⟩
    rw [hrest]
    unfold mapDo
    dsimp only
    rcases hd with hd | hd
    · rw [if_pos hd, if_neg (by omega)]
      have := insH_at (heldOf s) (l := th.filter fun h => h.key != s.key) fun x hx => by simpa [heldOf] using (List.mem_filter.1 hx).2
      rw [this]
      simp [placeP, heldOf]
    · rw [if_neg (by omega), if_pos hd]
  · have hpl : ∀ r : List Held, placeP k s r = r.length := fun r => by simp [placeP, h3]
    simp only [hpl, List.take_length, List.drop_length]
    rcases hd with hd | hd
    · have hg : goneP k th s = none := by simp [goneP, h3, hd]
      rw [hg, if_neg (by omega)]
      by_cases h1 : k = 1
      · simp [doP, h1, stackDo, hd, restP, fromP, noneH]
      · have h2 : k = 2 := by omega
        simp [doP, h2, queueDo, hd, restP, fromP, noneH]
    · have hd1 : ¬ s.do_ = 1 := by omega
      rw [if_pos hd]
      by_cases h0 : th.length = 0
      · obtain rfl : th = [] := List.eq_nil_of_length_eq_zero h0
        have hg : goneP k [] s = none := by simp [goneP, h3]
        rw [hg]
        by_cases h1 : k = 1
        · simp [doP, h1, stackDo, hd1, restP, fromP, noneH]
        · have h2 : k = 2 := by omega
          simp [doP, h2, queueDo, hd1, restP, fromP, noneH]
      · by_cases h1 : k = 1
        · have hg : goneP k th s = some (th.length - 1) := by simp [goneP, h3, hd1, h0, h1]
          rw [hg]
          rcases List.eq_nil_or_concat th with rfl | ⟨l, x, rfl⟩
          · simp at h0
          · rw [List.concat_eq_append] at *
            simp [doP, h1, stackDo, hd1, restP, fromP, List.getD_eq_getElem?_getD]
        · have h2 : k = 2 := by omega
          have hg : goneP k th s = some 0 := by simp [goneP, h3, hd1, h0, h1]
          rw [hg]
          cases th with
          | nil => simp at h0
          | cons x l => simp [doP, h2, queueDo, hd1, restP, fromP]
end Go.Proofs.Ytkoeplbkeboklaa
/- An append of a row that is read (nil, empty or not) to a window. -/
set_option linter.unusedVariables false
set_option linter.unusedSimpArgs false
namespace Go.Proofs.Ytkoeplbkeboklaa
open Go.RowKit
/-- n elements of k cells each, read one behind the other. -/
def RdC (k : Nat) (w : World) (v : Value) (n : Nat) (cs : List Value) : Prop :=
  cs.length = n * k ∧ (∀ u ∈ cs, u.oneCell' = true) ∧ ∃ a c, v = .slice a n c ∧ (0 < n → ∃ b off, a = some ⟨b, off, none⟩ ∧ b < w.heap.size ∧ ∀ j u, cs[j]? = some u → w.cell? ⟨b, off + j, none⟩ = some u)
theorem rdC_move {k n : Nat} {w W : World} {v : Value} {cs : List Value} {S : Nat → Prop} (h : RdC k w v n cs) (hf : Fr S w W) (hS : ∀ i, some i = v.ownBlock → ¬ S i) : RdC k W v n cs := by
  obtain ⟨h0, h1, a, c, rfl, h⟩ := h
  refine ⟨h0, h1, a, c, rfl, fun hl => ?_⟩
  obtain ⟨b, off, rfl, hlt, hr⟩ := h hl
  exact ⟨b, off, rfl, Nat.lt_of_lt_of_le hlt hf.size, fun j u hu => fr_cell hf (hr j u hu) (hS b rfl)⟩
theorem rdC_below {k n : Nat} {w W : World} {v : Value} {cs : List Value} (h : RdC k w v n cs) (hf : Below w.heap.size w W) : RdC k W v n cs := rdC_move h (fr_of_below (S := fun _ => False) hf) fun _ _ h => h
theorem flat_at {α : Type} {enc : α → List Value} {k : Nat} (hk : ∀ x, (enc x).length = k) (hk0 : 0 < k) (xs : List α) (j : Nat) (u : Value) (h : (xs.flatMap enc)[j]? = some u) : ∃ i x, xs[i]? = some x ∧ ∃ r, r < k ∧ j = i * k + r ∧ (enc x)[r]? = some u := by
  induction xs generalizing j with
  | nil => simp at h
  | cons x xs ih =>
    rw [List.flatMap_cons] at h
    by_cases hj : j < k
    · rw [List.getElem?_append_left (by rw [hk]; exact hj)] at h
      exact ⟨0, x, rfl, j, hj, by simp, h⟩
    · rw [List.getElem?_append_right (by rw [hk]; omega), hk] at h
      obtain ⟨i, y, hy, r, hr, he, hu⟩ := ih (j - k) h
      exact ⟨i + 1, y, by simpa using hy, r, hr, by rw [Nat.add_mul, Nat.one_mul]; omega, hu⟩
theorem rdC_of_rd {α : Type} {enc : α → List Value} {k : Nat} (hk : ∀ x, (enc x).length = k) (hk0 : 0 < k) (h1 : ∀ x, ∀ u ∈ enc x, u.oneCell' = true) {w : World} {v : Value} {xs : List α} (h : Rd enc k w v xs) : RdC k w v xs.length (xs.flatMap enc) := by
  obtain ⟨h0, a, c, rfl, h⟩ := h
  refine ⟨flat_len hk xs, fun u hu => ?_, a, c, rfl, fun hl => ?_⟩
  · obtain ⟨x, _, hx⟩ := List.mem_flatMap.1 hu
    exact h1 x u hx
  obtain ⟨b, off, rfl, hlt, hr⟩ := h hl
  refine ⟨b, off, rfl, hlt, fun j u hu => ?_⟩
  obtain ⟨i, x, hx, r, _, rfl, hu'⟩ := flat_at hk hk0 xs j u hu
  rw [← Nat.add_assoc]
  exact hr i x hx r u hu'
/-- A cut of what is read. -/
theorem rd_cut {α : Type} {enc : α → List Value} {k : Nat} {w : World} {b off n c : Nat} {xs : List α} (h : Rd enc k w (.slice (some ⟨b, off, none⟩) n c) xs) (lo hi : Nat) (hlo : lo ≤ hi) (hhi : hi ≤ xs.length) (off' c' : Nat) (ho : lo < hi → off' = off + lo * k) :
    Rd enc k w (.slice (some ⟨b, off', none⟩) (hi - lo) c') ((xs.drop lo).take (hi - lo)) := by
  obtain ⟨h0, a', c1, he, h⟩ := h
  injection he with h1 h2 h3
  have hl : ((xs.drop lo).take (hi - lo)).length = hi - lo := by simp; omega
  refine ⟨by omega, some ⟨b, off', none⟩, c', by rw [hl], fun hpos => ?_⟩
  rw [hl] at hpos
  obtain ⟨b2, off2, e2, hlt, hr⟩ := h (by omega)
  rw [← h1] at e2
  injection e2 with e2
  injection e2 with e3 e4
  subst e3; subst e4
  refine ⟨b, off', rfl, hlt, fun i x hx j u hu => ?_⟩
  have hi' : i < hi - lo := by have := (List.getElem?_eq_some_iff.1 hx).1; omega
  rw [List.getElem?_take, if_pos hi', List.getElem?_drop] at hx
  have := hr (lo + i) x hx j u hu
  rw [ho (by omega), show off + lo * k + i * k + j = off + (lo + i) * k + j by rw [Nat.add_mul]; omega]
  exact this
section
variable {P : Program} (w : World)
theorem run_append_rd (t ty e : TypeId) (i : TypeInfo) (z : Value) (k bytes : Nat) (ht : P.underlying t = some (.slice e)) (hi : P.info? e = some i) (hz : i.zero = some z)
    (hsize : i.size = k) (hby : i.bytes = bytes) (hzs : z.cells.size = k) (hk : 0 < k)
    (v : Value) (S : Nat → Prop) (n : Nat) (xs : List Value) (hwin : WinC k e w v S n xs) (x : Value) (m : Nat) (news : List Value) (hx : RdC k w x m news)
    (h63 : n + m ≤ maxLen) (hbytes : (n + m) * bytes ≤ 140737488355328) :
    ∃ v' w', (Builtin.append_ #[t, t] ty #[v, x]).run P w = .ok v' w' ∧ WinC k e w' v' (fun i => (S i ∧ i < w.heap.size) ∨ i = w.heap.size) (n + m) (xs ++ news) ∧ Fr (fun i => some i = v.ownBlock) w w' ∧ w'.heap.size ≤ w.heap.size + 1 := by
  obtain ⟨hl, h1, a, c, rfl, hc⟩ := hx
  by_cases hm : 0 < m
  · obtain ⟨b, off, rfl, hlt, hc⟩ := hc hm
    exact run_append_win w t ty e i z k bytes ht hi hz hsize hby hzs hk v S n xs hwin ⟨b, off, none⟩ m c news hl (fun j u hu => by rw [addr_add]; exact hc j u hu) h1 hm h63 hbytes
  · obtain rfl : m = 0 := by omega
    have hn : news = [] := List.eq_nil_of_length_eq_zero (by simpa using hl)
    subst hn
    have hwin' : WinC k e w v (fun i => (S i ∧ i < w.heap.size) ∨ i = w.heap.size) (n + 0) (xs ++ []) := by
      rw [List.append_nil, Nat.add_zero]
      exact winC_mono (winC_block hwin) fun i hi => .inl ⟨hi.2.1, hi.2.2⟩
    refine ⟨v, w, ?_, hwin', fr_refl _ _, by omega⟩
    obtain ⟨a0, c0, rfl, hnc, _⟩ := winC_slice hwin
    have hfc : (Builtin.firstCells i.size 0 (.slice a 0 c)).run P w = .ok #[] w := by
      cases a <;> simp [Builtin.firstCells, loadCells, loadCellsFrom]
    cases a0 <;> simp [Builtin.append_, run_underlying ht, sizeOf, typeInfo, hi, Builtin.lenOf, hnc, hfc, Result.andThen, storeCells]
theorem wp_append_rd {o : Oper} {a : Act} {K : Act → World → Prop} {Q : Exit → Act → World → Prop} (s x : Operand) (t : TypeId)
    (ho : o.op = .call { callee := .builtin .append, args := #[s, x], argTypes := #[t, t] })
    (e : TypeId) (k bytes : Nat) (z : Value) (ht : P.underlying t = some (.slice e)) (hinfo : (P.info? e).map (fun i => (i.zero, i.size, i.bytes)) = some (some z, k, bytes)) (hzs : z.cells.size = k) (hk : 0 < k)
    (v : Value) (S : Nat → Prop) (n : Nat) (xs : List Value) (hs : a.eval s = v) (xv : Value) (hx : a.eval x = xv) (hwin : WinC k e w v S n xs) (m : Nat) (news : List Value) (hrd : RdC k w xv m news)
    (h63 : n + m ≤ maxLen) (hbytes : (n + m) * bytes ≤ 140737488355328)
    (h : ∀ v' w', WinC k e w' v' (fun i => (S i ∧ i < w.heap.size) ∨ i = w.heap.size) (n + m) (xs ++ news) → Fr (fun i => some i = v.ownBlock) w w' → w'.heap.size ≤ w.heap.size + 1 → K (a.put o.dst v') w') : o.wp P a w K Q := by
  obtain ⟨i, hi, hzz⟩ := Option.map_eq_some_iff.1 hinfo
  simp only [Prod.mk.injEq] at hzz
  obtain ⟨v', w', hr, h2, h3, h4⟩ := run_append_rd (P := P) w t o.type e i z k bytes ht hi hzz.1 hzz.2.1 hzz.2.2 hzs hk v S n xs hwin xv m news hrd h63 hbytes
  unfold Oper.wp execOp
  simp only [ho, resolve, invoke, builtin, Sem.run_bind, Sem.run_pure, Result.andThen_ok, List.map_toArray, List.map_cons, List.map_nil, hs, hx, hr]
  exact h v' w' h2 h3 h4
theorem wpList_append_rd {ops : Array Oper} {rest : List Oper} {o : Oper} {a : Act} {Q : Exit → Act → World → Prop} (hgd : o.guard = none) (s x : Operand) (t : TypeId)
    (ho : o.op = .call { callee := .builtin .append, args := #[s, x], argTypes := #[t, t] })
    (e : TypeId) (k bytes : Nat) (z : Value) (ht : P.underlying t = some (.slice e)) (hinfo : (P.info? e).map (fun i => (i.zero, i.size, i.bytes)) = some (some z, k, bytes)) (hzs : z.cells.size = k) (hk : 0 < k)
    (v : Value) (S : Nat → Prop) (n : Nat) (xs : List Value) (hs : a.eval s = v) (xv : Value) (hx : a.eval x = xv) (hwin : WinC k e w v S n xs) (m : Nat) (news : List Value) (hrd : RdC k w xv m news)
    (h63 : n + m ≤ maxLen) (hbytes : (n + m) * bytes ≤ 140737488355328)
    (h : ∀ v' w', WinC k e w' v' (fun i => (S i ∧ i < w.heap.size) ∨ i = w.heap.size) (n + m) (xs ++ news) → Fr (fun i => some i = v.ownBlock) w w' → w'.heap.size ≤ w.heap.size + 1 → wpList P ops Q rest (a.put o.dst v') w') : wpList P ops Q (o :: rest) a w :=
  wpList_plain hgd fun _ hK => wp_append_rd w s x t ho e k bytes z ht hinfo hzs hk v S n xs hs xv hx hwin m news hrd h63 hbytes fun v' w' h2 h3 h4 => hK _ _ (h v' w' h2 h3 h4)
theorem step_append_rd {ops : Array Oper} {o : Oper} {a : Act} {K : Act → World → Prop} {Q : Exit → Act → World → Prop} {E : Prop} (hgd : o.guard = none) (s x : Operand) (t : TypeId)
    (ho : o.op = .call { callee := .builtin .append, args := #[s, x], argTypes := #[t, t] })
    (e : TypeId) (k bytes : Nat) (z : Value) (ht : P.underlying t = some (.slice e)) (hinfo : (P.info? e).map (fun i => (i.zero, i.size, i.bytes)) = some (some z, k, bytes)) (hzs : z.cells.size = k) (hk : 0 < k)
    (v : Value) (S : Nat → Prop) (n : Nat) (xs : List Value) (hs : a.eval s = v) (xv : Value) (hx : a.eval x = xv) (hwin : WinC k e w v S n xs) (m : Nat) (news : List Value) (hrd : RdC k w xv m news)
    (h63 : n + m ≤ maxLen) (hbytes : (n + m) * bytes ≤ 140737488355328)
    (h : ∀ v' w', WinC k e w' v' (fun i => (S i ∧ i < w.heap.size) ∨ i = w.heap.size) (n + m) (xs ++ news) → Fr (fun i => some i = v.ownBlock) w w' → w'.heap.size ≤ w.heap.size + 1 → K (a.put o.dst v') w') :
    if Region.wanted o (yielded ops a.tmps) = true then Oper.wp P o a w K Q else E := by
  have hw : Region.wanted o (yielded ops a.tmps) = true := by simp [Region.wanted, hgd]
  rw [if_pos hw]
  exact wp_append_rd w s x t ho e k bytes z ht hinfo hzs hk v S n xs hs xv hx hwin m news hrd h63 hbytes h
end
end Go.Proofs.Ytkoeplbkeboklaa
/- The reference's gone and step: what a step takes away, and what is there behind it. -/
set_option linter.unusedVariables false
set_option linter.unusedSimpArgs false
namespace Go.Proofs.Ytkoeplbkeboklaa
open Go.RowKit
/-- A thing's cells: when it came, and its pair. -/
def Held.thing (s : Held) : List Value := [.int .i64 s.from_, .int .i64 s.key, .int .i64 s.val]
theorem thing_len (x : Held) : x.thing.length = 3 := rfl
theorem thing_one (x : Held) : ∀ u ∈ x.thing, u.oneCell' = true := by simp [Held.thing, Value.oneCell']
theorem info_thing : (Try.prog.info? 115).map (fun i => (i.zero, i.size, i.bytes)) = some (some (.agg #[.int .i64 0, .int .i64 0, .int .i64 0]), 3, 24) := by kernel_rfl
def placeI (g : Option Nat) : Int := match g with | none => -1 | some j => j
theorem keyAt_drop {key : Int} {l : List Held} {n : Nat} {x : Held} (hx : l[n]? = some x) : keyAt key (l.drop n) n = if x.key = key then some n else keyAt key (l.drop (n + 1)) (n + 1) := by
  obtain ⟨hlt, rfl⟩ := List.getElem?_eq_some_iff.1 hx
  rw [List.drop_eq_getElem_cons hlt, keyAt]
set_option maxHeartbeats 2000000 in
theorem gone_any (k : Int) (v : Value) (th : List Held) (s : Step) (w : World) (hr : Rd Held.thing 3 w v th) (hth : th.length < 1000000) :
    Calls Try.prog 82 #[.int .i64 k, v, .agg #[.int .i64 s.at_, .int .i64 s.do_, .int .i64 s.key, .int .i64 s.val]] w fun e w' => e = .returned (.int .i64 (placeI (goneP k th s))) ∧ Below w.heap.size w w' := by
  obtain ⟨a, c, rfl⟩ : ∃ a c, v = .slice a th.length c := by obtain ⟨_, a, c, rfl, _⟩ := hr; exact ⟨a, c, rfl⟩
  have HR := Lib.hid hr
  clear hr
  by_cases hk : k = 3
  · subst hk
    go_enter Try.func82, Try.ntmps82
    go_wp2
    go_loopw [13] (fun i W => ∃ n : Nat, i = .int .i64 n ∧ n ≤ th.length ∧ keyAt s.key th 0 = keyAt s.key (th.drop n) n ∧ Below w.heap.size w W ∧ w.heap.size < W.heap.size ∧ W.cell? ⟨w.heap.size, 2, none⟩ = some (.int .i64 s.key)) (fun i _ => th.length - (intOf i).toNat)
    case atStart => exact ⟨0, rfl, by omega, rfl, (Below.refl _ _).alloc (Nat.le_refl _) _, by simp, by simp⟩
    case round =>
      obtain ⟨n, rfl, hnl, hka, hB, hlt, hc0⟩ := hrel
      by_cases hlt' : n < th.length
      · have hx := List.getElem?_eq_getElem hlt'
        generalize th[n] = h at hx
        obtain ⟨b, off, rfl, hbl, hc⟩ := rd_at (HR.out.below hB) hx
        have q0 : wr.cell? ⟨b, off + n * 3, none⟩ = some (.int .i64 h.from_) := hc 0 _ rfl
        have q1 := hc 1 _ rfl
        have q2 := hc 2 _ rfl
        have HK := Lib.hid (And.intro hka hx)
        clear hc hka hx
        by_cases he : h.key = s.key
        · go_wp2
          go_ret
          exact ⟨ret_int (by rw [show goneP 3 th s = keyAt s.key th 0 by simp [goneP], HK.out.1, keyAt_drop HK.out.2, if_pos he]; simp [placeI]), hB.alloc hB.size _⟩
        · go_wp2
          go_roundw
          case rel => exact ⟨n + 1, by go_num, by omega, by rw [HK.out.1, keyAt_drop HK.out.2, if_neg he], hB.alloc hB.size _, by simp; omega, below_cell ((Below.refl _ _).alloc (Nat.le_refl _) _) hc0⟩
          case measure => simp [intOf]; omega
      · obtain rfl : n = th.length := by omega
        have HK := Lib.hid hka
        clear hka
        go_wp2
        go_ret
        exact ⟨ret_int (by rw [show goneP 3 th s = keyAt s.key th 0 by simp [goneP], HK.out]; simp [placeI, keyAt]), hB⟩
  · have hk3 : (k == 3) = false := by simpa using hk
    by_cases hd : s.do_ = 1
    · have hg : goneP k th s = none := by simp [goneP, hk, hd]
      rw [hg]
      have HG := Lib.hid hg
      clear hg
      have hd1 : (s.do_ == 1) = true := by simp [hd]
      go_enter Try.func82, Try.ntmps82
      go_wp2
      go_ret
      exact ⟨rfl, (Below.refl _ _).alloc (Nat.le_refl _) _⟩
    · have hd1 : (s.do_ == 1) = false := by simpa using hd
      by_cases h0 : th.length = 0
      · have hg : goneP k th s = none := by simp [goneP, hk, hd, h0]
        rw [hg]
        have HG := Lib.hid hg
        have h0' : ((th.length : Int) == 0) = true := by simp [h0]
        clear hg
        go_enter Try.func82, Try.ntmps82
        go_wp2
        go_ret
        exact ⟨rfl, (Below.refl _ _).alloc (Nat.le_refl _) _⟩
      · have h0' : ((th.length : Int) == 0) = false := by simpa using h0
        by_cases h1 : k = 1
        · have hg : goneP k th s = some (th.length - 1) := by simp [goneP, hk, hd, h0, h1]
          rw [hg]
          have HG := Lib.hid hg
          clear hg
          have hk1 : (k == 1) = true := by simp [h1]
          go_enter Try.func82, Try.ntmps82
          go_wp2
          go_ret
          exact ⟨ret_int (by show _ = ((th.length - 1 : Nat) : Int); omega), (Below.refl _ _).alloc (Nat.le_refl _) _⟩
        · have hg : goneP k th s = some 0 := by simp [goneP, hk, hd, h0, h1]
          rw [hg]
          have HG := Lib.hid hg
          clear hg
          have hk1 : (k == 1) = false := by simpa using h1
          go_enter Try.func82, Try.ntmps82
          go_wp2
          go_ret
          exact ⟨ret_int (by simp [placeI]), (Below.refl _ _).alloc (Nat.le_refl _) _⟩
end Go.Proofs.Ytkoeplbkeboklaa
/- The reference's step: what is there behind it. -/
set_option linter.unusedVariables false
set_option linter.unusedSimpArgs false
namespace Go.Proofs.Ytkoeplbkeboklaa
open Go.RowKit
def stepR (g : Option Nat) (k : Int) (th : List Held) (s : Step) : List Held :=
  if s.do_ = 2 then restP g th else (restP g th).take (placeP k s (restP g th)) ++ heldOf s :: (restP g th).drop (placeP k s (restP g th))
theorem rdC_cut {α : Type} {enc : α → List Value} {k : Nat} (hk : ∀ x, (enc x).length = k) (hk0 : 0 < k) (h1 : ∀ x, ∀ u ∈ enc x, u.oneCell' = true) {w : World} {b off n c : Nat} {xs : List α} (h : Rd enc k w (.slice (some ⟨b, off, none⟩) n c) xs) (lo m : Nat) (hhi : lo + m ≤ xs.length) (off' c' : Nat) (ho : 0 < m → off' = off + lo * k) :
    RdC k w (.slice (some ⟨b, off', none⟩) m c') m (((xs.drop lo).take m).flatMap enc) := by
  have := rdC_of_rd hk hk0 h1 (rd_cut h lo (lo + m) (by omega) hhi off' c' (fun h => ho (by omega)))
  rw [show lo + m - lo = m by omega] at this
  have hl : ((xs.drop lo).take m).length = m := by simp; omega
  rwa [hl] at this
theorem rdC_new {k : Nat} (w : World) (cs : Array Value) (T c : Nat) (h : cs.size = k) (h1 : ∀ u ∈ cs.toList, u.oneCell' = true) : RdC k (w.alloc (.cells cs T)) (.slice (some ⟨w.heap.size, 0, none⟩) 1 c) 1 cs.toList :=
  ⟨by simp [h], h1, _, c, rfl, fun _ => ⟨_, _, rfl, by simp, fun j u hu => by have := news1 w cs T j u hu; rwa [addr_add] at this⟩⟩
theorem rdC_zero (k : Nat) (w : World) (a : Option Addr) (c : Nat) : RdC k w (.slice a 0 c) 0 [] := ⟨by simp, by simp, a, c, rfl, fun h => absurd h (by simp)⟩
theorem rest_len {j : Nat} {th : List Held} (h : j < th.length) : (restP (some j) th).length = j + (th.length - (j + 1)) := by simp [restP]; omega
theorem rest_flat {α : Type} {j : Nat} {th : List Held} (enc : Held → List α) : (restP (some j) th).flatMap enc = ((th.drop 0).take j).flatMap enc ++ ((th.drop (j + 1)).take (th.length - (j + 1))).flatMap enc := by
  rw [restP, List.flatMap_append, List.drop_zero, List.take_of_length_le (l := th.drop (j + 1)) (by simp)]
theorem gone_is {k : Int} {v : Value} {th : List Held} {s : Step} {p : Int} (hp : p = placeI (goneP k th s)) (hth : th.length < 1000000) (w : World) (hr : Rd Held.thing 3 w v th) :
    Calls Try.prog 82 #[.int .i64 k, v, .agg #[.int .i64 s.at_, .int .i64 s.do_, .int .i64 s.key, .int .i64 s.val]] w fun e w' => e = .returned (.int .i64 p) ∧ Below w.heap.size w w' := by
  rw [hp]; exact gone_any k v th s w hr hth
theorem drew_size (w : World) : w.drew.heap.size = w.heap.size := rfl
theorem step_list {g : Option Nat} {k : Int} {th r : List Held} {s : Step} {q : Nat} (hr : restP g th = r) (hq : placeP k s r = q) (hd : ¬ s.do_ = 2) (hle : q ≤ r.length) :
    (stepR g k th s).length = q + 1 + (r.length - q) ∧ (stepR g k th s).flatMap Held.thing = ((r.drop 0).take q).flatMap Held.thing ++ (heldOf s).thing ++ ((r.drop q).take (r.length - q)).flatMap Held.thing := by
  rw [stepR, if_neg hd, hr, hq]
  refine ⟨by simp; omega, ?_⟩
  rw [List.flatMap_append, List.flatMap_cons, List.drop_zero, List.take_of_length_le (l := r.drop q) (by simp), List.append_assoc]
set_option maxHeartbeats 4000000 in
theorem refStep_do (k : Int) (v : Value) (th : List Held) (s : Step) (S : Nat → Prop) (w : World) (hw : Win Held.thing 3 115 w v S th) (hth : th.length < 1000000) :
    Calls Try.prog 58 #[.int .i64 k, v, .agg #[.int .i64 s.at_, .int .i64 s.do_, .int .i64 s.key, .int .i64 s.val]] w fun e w' =>
      ∃ v', e = .returned (.tuple #[v', .int .i64 (fromP (goneP k th s) th)]) ∧ Win Held.thing 3 115 w' v' (fun i => S i ∨ w.heap.size ≤ i) (stepR (goneP k th s) k th s) ∧ Below w.heap.size w w' := by
  obtain ⟨p, hp⟩ : ∃ p, p = placeI (goneP k th s) := ⟨_, rfl⟩
  have HG := Lib.hid (fun W (h : Rd Held.thing 3 W v th) => gone_is hp hth W h)
  have HGl := Lib.hid (fun j => @goneP_lt k th s j)
  have HP := Lib.hid hp
  clear hp
  generalize goneP k th s = g at *
  have HW := Lib.hid hw
  clear hw
  have HB := Lib.hid (fun o => (Below.refl w.heap.size w).alloc (Nat.le_refl _) o)
  go_enter Try.func58, Try.ntmps58
  go_upto_if 17 with (go_at_call 82; refine (HG.out _ ((win_rd thing_len HW.out).below (HB.out _))).mono ?_; rintro e w1 ⟨rfl, hb1⟩)
  have hB1 : Below w.heap.size w w1 := (HB.out _).trans (hb1.mono (by simp))
  have hz1 : w.heap.size < w1.heap.size := by have := hb1.size; simp at this; omega
  have c0 := below_cell hb1 (World.cell?_alloc_new w #[.int .i64 s.at_, .int .i64 s.do_, .int .i64 s.key, .int .i64 s.val] 39 0)
  have c1 := below_cell hb1 (World.cell?_alloc_new w #[.int .i64 s.at_, .int .i64 s.do_, .int .i64 s.key, .int .i64 s.val] 39 1)
  have c2 := below_cell hb1 (World.cell?_alloc_new w #[.int .i64 s.at_, .int .i64 s.do_, .int .i64 s.key, .int .i64 s.val] 39 2)
  have c3 := below_cell hb1 (World.cell?_alloc_new w #[.int .i64 s.at_, .int .i64 s.do_, .int .i64 s.key, .int .i64 s.val] 39 3)
  have HC := Lib.hid (And.intro c0 (And.intro c1 (And.intro c2 c3)))
  clear c0 c1 c2 c3 hb1
  go_cut [1, 9] (fun v1 f W => f = .int .i64 (fromP g th) ∧ Win Held.thing 3 115 W v1 (fun i => (S i ∧ i < w.heap.size) ∨ w1.heap.size ≤ i) (restP g th) ∧ Below w1.heap.size w1 W)
  case first =>
    cases g with
    | none =>
      obtain rfl : p = -1 := HP.out
      go_wp2_with fail
      go_meet
      case rel => exact ⟨rfl, winC_mono (winC_move (winC_block HW.out) (fr_of_below (S := fun _ => False) hB1) fun _ _ h => h) fun i hi => .inl ⟨hi.2.1, hi.2.2⟩, Below.refl _ _⟩
    | some j =>
      obtain rfl : p = (j : Int) := HP.out
      have hj := HGl.out j rfl
      obtain ⟨a, c, rfl, hnc, hnm⟩ := winC_slice HW.out
      have hrd := (win_rd thing_len HW.out).below hB1
      obtain ⟨b, off, rfl, hbl, hc⟩ := rd_at hrd (List.getElem?_eq_getElem hj)
      have q0 : w1.cell? ⟨b, off + j * 3, none⟩ = some (.int .i64 th[j].from_) := hc 0 _ rfl
      have hf : fromP (some j) th = th[j].from_ := by simp [fromP, List.getD_eq_getElem?_getD, hj]
      have R1 := rdC_cut thing_len (by decide) thing_one hrd 0 j (by omega) off c (by omega)
      have R2 := fun off' c' h => rdC_cut thing_len (by decide) thing_one hrd (j + 1) (th.length - (j + 1)) (by omega) off' c' h
      have HF := Lib.hid (And.intro hf (And.intro R1 R2))
      clear hc hf R1 R2 hrd
      have n1 : j ≤ c := by omega
      have n2 : j + 1 ≤ th.length := by omega
      go_wp2_with fail
      have hwr : IntKind.i64.wrap ((j : Int) + 1) = (j : Int) + 1 := Go.IntWalk.i64_in _ (by omega)
      have n3 : (0 : Int) ≤ (j : Int) + 1 := by omega
      have n4 : (j : Int) + 1 ≤ (th.length : Int) := by omega
      have n5 : (j : Int) ≤ (j : Int) + 1 := by omega
      have n6 : (j : Int) ≤ (c : Int) := by omega
      by_cases hcj : c = j + 1
      · subst hcj
        have hz : th.length - (j + 1) = 0 := by omega
        have HZ := Lib.hid hz
        clear hz
        set_option maxRecDepth 10000 in
        go_region_law ((first | (refine step_append_rd _ (by rfl) _ _ _ (by rfl) 115 3 24 _ Try.underlying87 info_thing rfl (by decide) _ _ j _ (by go_simp <;> rfl) _ (by go_simp <;> rfl) hwin2 0 [] (rdC_zero _ _ (some ⟨b, off, none⟩) 0) (by unfold maxLen; omega) (by omega) ?_; intro v3 w3 hwin3 hfr3 hsz3; simp only [Nat.add_zero, List.append_nil] at hwin3; obtain ⟨a3, c3, rfl, hn3, hm3⟩ := winC_slice hwin3) | (refine step_append_rd _ (by rfl) _ _ _ (by rfl) 115 3 24 _ Try.underlying87 info_thing rfl (by decide) _ (fun _ => False) 0 [] (by go_simp <;> rfl) _ (by go_simp <;> rfl) (winC_nil _ _ _ _) j _ (rdC_below HF.out.2.1 (Below.refl _ _).drew) (by unfold maxLen; omega) (by omega) ?_; intro v2 w2 hwin2 hfr2 hsz2; simp only [Nat.zero_add, List.nil_append] at hwin2; obtain ⟨a2, c2, rfl, hn2, hm2⟩ := winC_slice hwin2)))
        all_goals
          try have HF3 := Lib.hid (And.intro hwin2 (And.intro hfr2 (And.intro hfr3 hwin3)))
          have hFr : Below w1.heap.size w1 w3 := by
            have h2 : Below w1.heap.size w1 w2 := (Below.refl w1.heap.size w1).drew.trans (below_of_fr hfr2 (Nat.le_refl _) fun i hi => nomatch hi)
            exact h2.trans (below_of_fr hfr3 h2.size fun i hi => by have := (winC_ob hwin2 i hi).1; rcases this with h | h; exact h.1.elim; exact Nat.le_of_eq h.symm)
          have hWin : Win Held.thing 3 115 w3 (.slice a3 j c3) (fun i => (S i ∧ i < w.heap.size) ∨ w1.heap.size ≤ i) (restP (some j) th) := by
            refine (?_ : WinC _ _ _ _ _ _ _)
            rw [rest_len hj, rest_flat, HZ.out, Nat.add_zero, List.take_zero, List.flatMap_nil, List.append_nil]
            exact winC_mono hwin3 fun i hi => .inr (by
              have h2 := hfr2.size
              have e0 : w1.drew.heap.size = w1.heap.size := rfl
              rcases hi with hi | hi
              · rcases hi.1 with h | h
                · exact h.1.elim
                · omega
              · omega)

          clear hwin2 hfr2 hfr3 hwin3
          have HF4 := Lib.hid (And.intro hFr hWin)
          clear hFr hWin
          go_wp2_with fail
          go_meet
          case rel => exact ⟨HF.out.1.symm ▸ rfl, HF4.out.2, HF4.out.1⟩
      · set_option maxRecDepth 10000 in
        go_region_law ((first | (refine step_append_rd _ (by rfl) _ _ _ (by rfl) 115 3 24 _ Try.underlying87 info_thing rfl (by decide) _ _ j _ (by go_simp <;> rfl) _ (by go_simp <;> rfl) hwin2 (th.length - (j + 1)) _ (rdC_move (rdC_below (HF.out.2.2 (off + (j + 1) * 3) (c - (j + 1)) (fun _ => rfl)) (Below.refl _ _).drew) hfr2 (fun i hi h => nomatch h)) (by unfold maxLen; omega) (by omega) ?_; intro v3 w3 hwin3 hfr3 hsz3; obtain ⟨a3, c3, rfl, hn3, hm3⟩ := winC_slice hwin3) | (refine step_append_rd _ (by rfl) _ _ _ (by rfl) 115 3 24 _ Try.underlying87 info_thing rfl (by decide) _ (fun _ => False) 0 [] (by go_simp <;> rfl) _ (by go_simp <;> rfl) (winC_nil _ _ _ _) j _ (rdC_below HF.out.2.1 (Below.refl _ _).drew) (by unfold maxLen; omega) (by omega) ?_; intro v2 w2 hwin2 hfr2 hsz2; simp only [Nat.zero_add, List.nil_append] at hwin2; obtain ⟨a2, c2, rfl, hn2, hm2⟩ := winC_slice hwin2)))
        all_goals
          try have HF3 := Lib.hid (And.intro hwin2 (And.intro hfr2 (And.intro hfr3 hwin3)))
          have hFr : Below w1.heap.size w1 w3 := by
            have h2 : Below w1.heap.size w1 w2 := (Below.refl w1.heap.size w1).drew.trans (below_of_fr hfr2 (Nat.le_refl _) fun i hi => nomatch hi)
            exact h2.trans (below_of_fr hfr3 h2.size fun i hi => by have := (winC_ob hwin2 i hi).1; rcases this with h | h; exact h.1.elim; exact Nat.le_of_eq h.symm)
          have hWin : Win Held.thing 3 115 w3 (.slice a3 (j + (th.length - (j + 1))) c3) (fun i => (S i ∧ i < w.heap.size) ∨ w1.heap.size ≤ i) (restP (some j) th) := by
            refine (?_ : WinC _ _ _ _ _ _ _)
            rw [rest_len hj, rest_flat]
            exact winC_mono hwin3 fun i hi => .inr (by
              have h2 := hfr2.size
              have e0 : w1.drew.heap.size = w1.heap.size := rfl
              rcases hi with hi | hi
              · rcases hi.1 with h | h
                · exact h.1.elim
                · omega
              · omega)

          clear hwin2 hfr2 hfr3 hwin3
          have HF4 := Lib.hid (And.intro hFr hWin)
          clear hFr hWin
          go_wp2_with fail
          go_meet
          case rel => exact ⟨HF.out.1.symm ▸ rfl, HF4.out.2, HF4.out.1⟩
  case rest =>
    obtain ⟨rfl, hwin, hb2⟩ := hcut
    have hrl : (restP g th).length ≤ th.length := by
      cases g with
      | none => exact Nat.le_refl _
      | some j => rw [rest_len (HGl.out j rfl)]; have := HGl.out j rfl; omega
    obtain ⟨r, hr⟩ : ∃ r, restP g th = r := ⟨_, rfl⟩
    rw [hr] at hwin hrl
    have c0 := below_cell hb2 HC.out.1
    have c1 := below_cell hb2 HC.out.2.1
    have c2 := below_cell hb2 HC.out.2.2.1
    have c3 := below_cell hb2 HC.out.2.2.2
    have hz2 := hb2.size
    have HH := Lib.hid (And.intro hr (And.intro hwin (hB1.trans (hb2.mono (by omega)))))
    obtain ⟨a, c, rfl, hnc, hnm⟩ := winC_slice hwin
    clear hr hwin hb2 HG HGl HW HB HC HP hB1
    by_cases hd : s.do_ = 2
    · have hd2 : (s.do_ == 2) = true := by simp [hd]
      have HD := Lib.hid hd
      clear hd
      go_wp2
      go_ret2
      exact ⟨_, rfl, winC_mono (show WinC _ _ _ _ _ _ _ from by rw [stepR, if_pos HD.out, HH.out.1]; exact HH.out.2.1) fun i hi => by rcases hi with h | h; exact .inl h.1; exact .inr (by omega), HH.out.2.2⟩
    · have hd2 : (s.do_ == 2) = false := by simp [hd]
      have HD := Lib.hid hd
      clear hd
      go_upto_if 48 with fail
      have hX : w.heap.size < wc.heap.size := by omega
      refine named_box wc _ _ fun W0 hb0 hz0 hbx => ?_
      have d2 := below_cell hb0 c2
      have e0 := hbx 0
      have e1 := hbx 1
      have e2 := hbx 2
      have hq : placeP k s r ≤ r.length := by unfold placeP; split; exact smaller_le _ _; exact Nat.le_refl _
      have HR := Lib.hid (And.intro HH.out.1 (And.intro ((win_rd thing_len HH.out.2.1).below hb0) (And.intro (HH.out.2.2.trans (hb0.mono (by omega))) HH.out.2.1.2)))
      clear c0 c1 c2 c3 hbx hb0 HH
      generalize wc.heap.size = X at *
      go_cut [11] (fun n W => n = .int .i64 (placeP k s r) ∧ Below W0.heap.size W0 W)
      case first =>
        by_cases hk : k = 3
        · subst hk
          have HP := Lib.hid (show placeP 3 s r = smaller s.key r by simp [placeP])
          clear hq e0 e1 e2
          go_wp2_with fail
          go_loopw [11] (fun i W => ∃ n : Nat, i = .int .i64 n ∧ n ≤ r.length ∧ smaller s.key (r.drop n) + n = smaller s.key r ∧ Below W0.heap.size W0 W) (fun i _ => r.length - (intOf i).toNat)
          case atStart => exact ⟨0, rfl, by omega, rfl, Below.refl _ _⟩
          case round =>
            obtain ⟨n, rfl, hnl, hsm, hB⟩ := hrel
            have hsl := smaller_le s.key (r.drop n)
            have g2 := below_cell hB d2
            by_cases hlt' : n < r.length
            · have hlb : decide ((n : Int) < (r.length : Int)) = true := by simp; omega
              have hx := List.getElem?_eq_getElem hlt'
              generalize r[n] = h at hx
              obtain ⟨b, off, rfl, hbl, hc⟩ := rd_at (HR.out.2.1.below hB) hx
              have q1 := hc 1 _ rfl
              have hdr : r.drop n = h :: r.drop (n + 1) := by rw [List.drop_eq_getElem_cons hlt', (List.getElem?_eq_some_iff.1 hx).2]
              rw [hdr] at hsm
              have HS := Lib.hid hsm
              clear hsm hx hc hdr hsl
              by_cases hkk : h.key < s.key
              · have hkb : decide (h.key < s.key) = true := decide_eq_true hkk
                have HK := Lib.hid hkk
                clear hkk
                go_wp2
                go_quiet (fail)
                go_wp2
                go_roundw
                case rel => exact ⟨n + 1, by go_num, by omega, by rw [← HS.out, smaller, if_pos HK.out]; omega, below_drewN hB _⟩
                case measure => simp [intOf]; omega
              · have hkb : decide (h.key < s.key) = false := decide_eq_false hkk
                have HK := Lib.hid hkk
                clear hkk
                go_wp2
                go_quiet (fail)
                go_wp2
                go_meet
                case rel => exact ⟨by rw [HP.out, ← HS.out, smaller, if_neg (by have := HK.out; omega)]; simp, below_drewN hB _⟩
            · obtain rfl : n = r.length := by omega
              have hlb : decide ((r.length : Int) < (r.length : Int)) = false := by simp
              have HS := Lib.hid hsm
              clear hsm hsl
              go_wp2
              go_quiet (fail)
              go_wp2
              go_meet
              case rel => exact ⟨by rw [HP.out, ← HS.out]; simp [smaller], below_drewN hB _⟩
        · have hk3 : (k == 3) = false := by simpa using hk
          have HP := Lib.hid (show placeP k s r = r.length by simp [placeP, hk])
          clear hk
          go_wp2_with fail
          go_meet
          case rel => exact ⟨by rw [HP.out], Below.refl _ _⟩
      case rest =>
        obtain ⟨rfl, hBX⟩ := hcut
        obtain ⟨q, hq2⟩ : ∃ q, placeP k s r = q := ⟨_, rfl⟩
        rw [hq2] at hq
        have HQ := Lib.hid hq2
        have HBX := Lib.hid hBX
        have g0 := below_cell hBX e0
        have g1 := below_cell hBX e1
        have g2 := below_cell hBX e2
        have hqi : ((placeP k s r : Nat) : Int) = (q : Int) := by rw [hq2]
        clear hBX hq2 d2
        have n6 : (0 : Int) ≤ (q : Int) := by omega
        have n7 : (q : Int) ≤ (r.length : Int) := by omega
        have n8 : (q : Int) ≤ (c : Int) := by omega
        rcases HR.out.2.2.2 with ⟨hv, h0⟩ | ⟨b, off, cap, cur, hv, _⟩
        · injection hv with hv1 hv2 hv3
          obtain rfl : r = [] := List.eq_nil_of_length_eq_zero h0
          subst hv1; subst hv3
          obtain rfl : q = 0 := by simpa using hq
          clear hv2 h0 n6 n7 n8
          go_wp2_with fail
          set_option maxRecDepth 10000 in
          go_region_law ((first | (refine step_append_rd _ (by rfl) _ _ _ (by rfl) 115 3 24 _ Try.underlying87 info_thing rfl (by decide) _ _ 1 _ (by go_simp <;> rfl) _ (by go_simp <;> rfl) hwin3 0 [] (rdC_zero _ _ none 0) (by unfold maxLen; omega) (by omega) ?_; intro v4 w4 hwin4 hfr4 hsz4; simp only [Nat.add_zero, List.append_nil] at hwin4; obtain ⟨a4, c4, rfl, hn4, hm4⟩ := winC_slice hwin4) | (refine step_append_rd _ (by rfl) _ _ _ (by rfl) 115 3 24 _ Try.underlying87 info_thing rfl (by decide) _ _ 0 _ (by go_simp <;> rfl) _ (by go_simp <;> rfl) (winC_move hwin2 (fr_alloc (fun _ => False) w2 _) fun _ _ h => h) 1 (heldOf s).thing (rdC_new w2 #[.int .i64 s.at_, .int .i64 s.key, .int .i64 s.val] 115 1 rfl (thing_one (heldOf s))) (by unfold maxLen; omega) (by omega) ?_; intro v3 w3 hwin3 hfr3 hsz3; simp only [Nat.zero_add, List.nil_append] at hwin3; obtain ⟨a3, c3, rfl, hn3, hm3⟩ := winC_slice hwin3; have hb3 : Below W0.heap.size W0 w3 := (by have z0 := HBX.out.size; have z1 := hfr2.size; simp [drew_size] at z1; first | exact hb2.trans (below_of_fr hfr3 hb2.size fun i hi => by have := (winC_ob hwin2 i hi).1; simp [drew_size] at this; omega) | exact (hb2.alloc hb2.size _).trans (below_of_fr hfr3 (by have := hb2.size; simp; omega) fun i hi => by have := (winC_ob hwin2 i hi).1; simp [drew_size] at this; omega))) | (refine step_append_rd _ (by rfl) _ _ _ (by rfl) 115 3 24 _ Try.underlying87 info_thing rfl (by decide) _ _ 0 _ (by go_simp <;> rfl) _ (by go_simp <;> rfl) hwin2 1 (heldOf s).thing (rdC_move (rdC_new wc.drew #[.int .i64 s.at_, .int .i64 s.key, .int .i64 s.val] 115 1 rfl (thing_one (heldOf s))) hfr2 fun i hi h => nomatch h) (by unfold maxLen; omega) (by omega) ?_; intro v3 w3 hwin3 hfr3 hsz3; simp only [Nat.zero_add, List.nil_append] at hwin3; obtain ⟨a3, c3, rfl, hn3, hm3⟩ := winC_slice hwin3; have hb3 : Below W0.heap.size W0 w3 := (by have z0 := HBX.out.size; have z1 := hfr2.size; simp [drew_size] at z1; first | exact hb2.trans (below_of_fr hfr3 hb2.size fun i hi => by have := (winC_ob hwin2 i hi).1; simp [drew_size] at this; omega) | exact (hb2.alloc hb2.size _).trans (below_of_fr hfr3 (by have := hb2.size; simp; omega) fun i hi => by have := (winC_ob hwin2 i hi).1; simp [drew_size] at this; omega))) | (refine step_append_rd _ (by rfl) _ _ _ (by rfl) 115 3 24 _ Try.underlying87 info_thing rfl (by decide) _ (fun _ => False) 0 [] (by go_simp <;> rfl) _ (by go_simp <;> rfl) (winC_nil _ _ _ _) 0 [] (rdC_zero _ _ none 0) (by unfold maxLen; omega) (by omega) ?_; intro v2 w2 hwin2 hfr2 hsz2; simp only [Nat.add_zero, List.append_nil] at hwin2; obtain ⟨a2, c2, rfl, hn2, hm2⟩ := winC_slice hwin2; have hb2 : Below W0.heap.size W0 w2 := (by first | exact (HBX.out.drew).trans (below_of_fr hfr2 HBX.out.size fun i hi => nomatch hi) | exact (HBX.out.drew.alloc HBX.out.size _).trans (below_of_fr hfr2 (by have := HBX.out.size; simp; omega) fun i hi => nomatch hi)); have g0 := below_cell hb2 e0; have g1 := below_cell hb2 e1; have g2 := below_cell hb2 e2) | fail))
          all_goals
            have z0 := HBX.out.size
            have z1 := hfr2.size
            have z2 := hfr3.size
            try simp only [World.size_alloc, drew_size] at z1 z2
            have hb4 : Below W0.heap.size W0 w4 := hb3.trans (below_of_fr hfr4 hb3.size fun i hi => by have := (winC_ob hwin3 i hi).1; simp [drew_size] at this; omega)
            have hl := step_list HR.out.1 HQ.out HD.out hq
            have hW : Win Held.thing 3 115 w4 (.slice a4 (1) c4) (fun i => S i ∨ w.heap.size ≤ i) (stepR g k th s) := by
              refine (?_ : WinC _ _ _ _ _ _ _)
              rw [hl.1, hl.2]
              exact winC_mono hwin4 fun i hi => .inr (by simp [drew_size] at hi; omega)
            have HW4 := Lib.hid (And.intro hW (HR.out.2.2.1.trans (hb4.mono (by omega))))
            clear hW hl hb4 hwin2 hwin3 hwin4 hfr2 hfr3 hfr4 hb2 hb3 z0 z1 z2
            go_wp2
            go_ret2
            exact ⟨_, rfl, HW4.out.1, HW4.out.2⟩
        · have hq' : q ≤ c := by omega
          injection hv with hv1 hv2 hv3
          subst hv1; clear hv2 hv3
          have R1 := rdC_cut thing_len (by decide) thing_one HR.out.2.1 0 q (by omega) off c (by omega)
          have R2 := fun off' c' h => rdC_cut thing_len (by decide) thing_one HR.out.2.1 q (r.length - q) (by omega) off' c' h
          have HF := Lib.hid (And.intro R1 R2)
          clear R1 R2
          by_cases hcq : q = c
          · subst hcq
            have hz : r.length - q = 0 := by omega
            have HZ := Lib.hid hz
            clear hz
            go_wp2_with fail
            set_option maxRecDepth 10000 in
            go_region_law ((first | (refine step_append_rd _ (by rfl) _ _ _ (by rfl) 115 3 24 _ Try.underlying87 info_thing rfl (by decide) _ _ (q + 1) _ (by go_simp <;> rfl) _ (by go_simp <;> rfl) hwin3 0 [] (rdC_zero _ _ (some ⟨b, off, none⟩) 0) (by unfold maxLen; omega) (by omega) ?_; intro v4 w4 hwin4 hfr4 hsz4; simp only [Nat.add_zero, List.append_nil] at hwin4; obtain ⟨a4, c4, rfl, hn4, hm4⟩ := winC_slice hwin4) | (refine step_append_rd _ (by rfl) _ _ _ (by rfl) 115 3 24 _ Try.underlying87 info_thing rfl (by decide) _ _ q _ (by go_simp <;> rfl) _ (by go_simp <;> rfl) (winC_move hwin2 (fr_alloc (fun _ => False) w2 _) fun _ _ h => h) 1 (heldOf s).thing (rdC_new w2 #[.int .i64 s.at_, .int .i64 s.key, .int .i64 s.val] 115 1 rfl (thing_one (heldOf s))) (by unfold maxLen; omega) (by omega) ?_; intro v3 w3 hwin3 hfr3 hsz3; obtain ⟨a3, c3, rfl, hn3, hm3⟩ := winC_slice hwin3; have hb3 : Below W0.heap.size W0 w3 := (by have z0 := HBX.out.size; have z1 := hfr2.size; simp [drew_size] at z1; first | exact hb2.trans (below_of_fr hfr3 hb2.size fun i hi => by have := (winC_ob hwin2 i hi).1; simp [drew_size] at this; omega) | exact (hb2.alloc hb2.size _).trans (below_of_fr hfr3 (by have := hb2.size; simp; omega) fun i hi => by have := (winC_ob hwin2 i hi).1; simp [drew_size] at this; omega))) | (refine step_append_rd _ (by rfl) _ _ _ (by rfl) 115 3 24 _ Try.underlying87 info_thing rfl (by decide) _ _ q _ (by go_simp <;> rfl) _ (by go_simp <;> rfl) hwin2 1 (heldOf s).thing (rdC_move (rdC_new wc.drew #[.int .i64 s.at_, .int .i64 s.key, .int .i64 s.val] 115 1 rfl (thing_one (heldOf s))) hfr2 fun i hi h => nomatch h) (by unfold maxLen; omega) (by omega) ?_; intro v3 w3 hwin3 hfr3 hsz3; obtain ⟨a3, c3, rfl, hn3, hm3⟩ := winC_slice hwin3; have hb3 : Below W0.heap.size W0 w3 := (by have z0 := HBX.out.size; have z1 := hfr2.size; simp [drew_size] at z1; first | exact hb2.trans (below_of_fr hfr3 hb2.size fun i hi => by have := (winC_ob hwin2 i hi).1; simp [drew_size] at this; omega) | exact (hb2.alloc hb2.size _).trans (below_of_fr hfr3 (by have := hb2.size; simp; omega) fun i hi => by have := (winC_ob hwin2 i hi).1; simp [drew_size] at this; omega))) | (refine step_append_rd _ (by rfl) _ _ _ (by rfl) 115 3 24 _ Try.underlying87 info_thing rfl (by decide) _ (fun _ => False) 0 [] (by go_simp <;> rfl) _ (by go_simp <;> rfl) (winC_nil _ _ _ _) q _ (rdC_below HF.out.1 (by first | exact HBX.out.drew | exact HBX.out.drew.alloc HBX.out.size _)) (by unfold maxLen; omega) (by omega) ?_; intro v2 w2 hwin2 hfr2 hsz2; simp only [Nat.zero_add, List.nil_append] at hwin2; obtain ⟨a2, c2, rfl, hn2, hm2⟩ := winC_slice hwin2; have hb2 : Below W0.heap.size W0 w2 := (by first | exact (HBX.out.drew).trans (below_of_fr hfr2 HBX.out.size fun i hi => nomatch hi) | exact (HBX.out.drew.alloc HBX.out.size _).trans (below_of_fr hfr2 (by have := HBX.out.size; simp; omega) fun i hi => nomatch hi)); have g0 := below_cell hb2 e0; have g1 := below_cell hb2 e1; have g2 := below_cell hb2 e2) | fail))
            all_goals
              have z0 := HBX.out.size
              have z1 := hfr2.size
              have z2 := hfr3.size
              try simp only [World.size_alloc, drew_size] at z1 z2
              have hb4 : Below W0.heap.size W0 w4 := hb3.trans (below_of_fr hfr4 hb3.size fun i hi => by have := (winC_ob hwin3 i hi).1; simp [drew_size] at this; omega)
              have hl := step_list HR.out.1 HQ.out HD.out hq
              have hW : Win Held.thing 3 115 w4 (.slice a4 (q + 1) c4) (fun i => S i ∨ w.heap.size ≤ i) (stepR g k th s) := by
                refine (?_ : WinC _ _ _ _ _ _ _)
                rw [hl.1, hl.2, HZ.out, Nat.add_zero, List.take_zero, List.flatMap_nil, List.append_nil]
                exact winC_mono hwin4 fun i hi => .inr (by simp [drew_size] at hi; omega)
              have HW4 := Lib.hid (And.intro hW (HR.out.2.2.1.trans (hb4.mono (by omega))))
              clear hW hl hb4 hwin2 hwin3 hwin4 hfr2 hfr3 hfr4 hb2 hb3 z0 z1 z2
              go_wp2
              go_ret2
              exact ⟨_, rfl, HW4.out.1, HW4.out.2⟩
          · have hcq2 : ¬ c = q := fun h => hcq h.symm
            go_wp2_with fail
            set_option maxRecDepth 10000 in
            go_region_law ((first | (refine step_append_rd _ (by rfl) _ _ _ (by rfl) 115 3 24 _ Try.underlying87 info_thing rfl (by decide) _ _ (q + 1) _ (by go_simp <;> rfl) _ (by go_simp <;> rfl) hwin3 (r.length - q) _ (rdC_below (HF.out.2 (off + q * 3) (c - q) (fun _ => rfl)) hb3) (by unfold maxLen; omega) (by omega) ?_; intro v4 w4 hwin4 hfr4 hsz4; obtain ⟨a4, c4, rfl, hn4, hm4⟩ := winC_slice hwin4) | (refine step_append_rd _ (by rfl) _ _ _ (by rfl) 115 3 24 _ Try.underlying87 info_thing rfl (by decide) _ _ q _ (by go_simp <;> rfl) _ (by go_simp <;> rfl) (winC_move hwin2 (fr_alloc (fun _ => False) w2 _) fun _ _ h => h) 1 (heldOf s).thing (rdC_new w2 #[.int .i64 s.at_, .int .i64 s.key, .int .i64 s.val] 115 1 rfl (thing_one (heldOf s))) (by unfold maxLen; omega) (by omega) ?_; intro v3 w3 hwin3 hfr3 hsz3; obtain ⟨a3, c3, rfl, hn3, hm3⟩ := winC_slice hwin3; have hb3 : Below W0.heap.size W0 w3 := (by have z0 := HBX.out.size; have z1 := hfr2.size; simp [drew_size] at z1; first | exact hb2.trans (below_of_fr hfr3 hb2.size fun i hi => by have := (winC_ob hwin2 i hi).1; simp [drew_size] at this; omega) | exact (hb2.alloc hb2.size _).trans (below_of_fr hfr3 (by have := hb2.size; simp; omega) fun i hi => by have := (winC_ob hwin2 i hi).1; simp [drew_size] at this; omega))) | (refine step_append_rd _ (by rfl) _ _ _ (by rfl) 115 3 24 _ Try.underlying87 info_thing rfl (by decide) _ _ q _ (by go_simp <;> rfl) _ (by go_simp <;> rfl) hwin2 1 (heldOf s).thing (rdC_move (rdC_new wc.drew #[.int .i64 s.at_, .int .i64 s.key, .int .i64 s.val] 115 1 rfl (thing_one (heldOf s))) hfr2 fun i hi h => nomatch h) (by unfold maxLen; omega) (by omega) ?_; intro v3 w3 hwin3 hfr3 hsz3; obtain ⟨a3, c3, rfl, hn3, hm3⟩ := winC_slice hwin3; have hb3 : Below W0.heap.size W0 w3 := (by have z0 := HBX.out.size; have z1 := hfr2.size; simp [drew_size] at z1; first | exact hb2.trans (below_of_fr hfr3 hb2.size fun i hi => by have := (winC_ob hwin2 i hi).1; simp [drew_size] at this; omega) | exact (hb2.alloc hb2.size _).trans (below_of_fr hfr3 (by have := hb2.size; simp; omega) fun i hi => by have := (winC_ob hwin2 i hi).1; simp [drew_size] at this; omega))) | (refine step_append_rd _ (by rfl) _ _ _ (by rfl) 115 3 24 _ Try.underlying87 info_thing rfl (by decide) _ (fun _ => False) 0 [] (by go_simp <;> rfl) _ (by go_simp <;> rfl) (winC_nil _ _ _ _) q _ (rdC_below HF.out.1 (by first | exact HBX.out.drew | exact HBX.out.drew.alloc HBX.out.size _)) (by unfold maxLen; omega) (by omega) ?_; intro v2 w2 hwin2 hfr2 hsz2; simp only [Nat.zero_add, List.nil_append] at hwin2; obtain ⟨a2, c2, rfl, hn2, hm2⟩ := winC_slice hwin2; have hb2 : Below W0.heap.size W0 w2 := (by first | exact (HBX.out.drew).trans (below_of_fr hfr2 HBX.out.size fun i hi => nomatch hi) | exact (HBX.out.drew.alloc HBX.out.size _).trans (below_of_fr hfr2 (by have := HBX.out.size; simp; omega) fun i hi => nomatch hi)); have g0 := below_cell hb2 e0; have g1 := below_cell hb2 e1; have g2 := below_cell hb2 e2) | fail))
            all_goals
              have z0 := HBX.out.size
              have z1 := hfr2.size
              have z2 := hfr3.size
              try simp only [World.size_alloc, drew_size] at z1 z2
              have hb4 : Below W0.heap.size W0 w4 := hb3.trans (below_of_fr hfr4 hb3.size fun i hi => by have := (winC_ob hwin3 i hi).1; simp [drew_size] at this; omega)
              have hl := step_list HR.out.1 HQ.out HD.out hq
              have hW : Win Held.thing 3 115 w4 (.slice a4 (q + 1 + (r.length - q)) c4) (fun i => S i ∨ w.heap.size ≤ i) (stepR g k th s) := by
                refine (?_ : WinC _ _ _ _ _ _ _)
                rw [hl.1, hl.2]
                exact winC_mono hwin4 fun i hi => .inr (by simp [drew_size] at hi; omega)
              have HW4 := Lib.hid (And.intro hW (HR.out.2.2.1.trans (hb4.mono (by omega))))
              clear hW hl hb4 hwin2 hwin3 hwin4 hfr2 hfr3 hfr4 hb2 hb3 z0 z1 z2
              go_wp2
              go_ret2
              exact ⟨_, rfl, HW4.out.1, HW4.out.2⟩
end Go.Proofs.Ytkoeplbkeboklaa
/- retro.At, retro.Check, and the reference's Step, Good, Check: what they return. -/
set_option linter.unusedVariables false
set_option linter.unusedSimpArgs false
namespace Go.Proofs.Ytkoeplbkeboklaa
open Go.RowKit
/-- A list, or an error. -/
def atP (k : Int) (l : List Step) (t : Int) : List Pair × Int := if isLineP k l then (thereP k l t, 0) else ([], 2)
def checkP (k : Int) (l : List Step) : Int := if isLineP k l then 0 else 2

theorem refIn_any (n : Int) (w : World) : Calls Try.prog 93 #[.int .i64 n] w fun e w' => e = .returned (.bool (withinP n (-1000000000) 1000000000)) ∧ w = w' := by
  unfold withinP
  by_cases h1 : -1000000000 ≤ n <;> by_cases h2 : n ≤ 1000000000 <;>
  (go_enter Try.func93, Try.ntmps93
   go_wp2
   go_ret
   exact ⟨by simp [h1, h2], rfl⟩)
theorem refKind_any (n : Int) (w : World) : Calls Try.prog 73 #[.int .i64 n] w fun e w' => e = .returned (.bool (decide (1 ≤ n) && decide (n ≤ 3))) ∧ w = w' := by
  by_cases h1 : 1 ≤ n <;> by_cases h2 : n ≤ 3 <;>
  (go_enter Try.func73, Try.ntmps73
   go_wp2
   go_ret
   exact ⟨by simp [h1, h2], rfl⟩)
set_option maxHeartbeats 4000000 in
theorem refStep_any (k : Int) (s : Step) (w : World) : Calls Try.prog 65 #[.int .i64 k, .agg #[.int .i64 s.at_, .int .i64 s.do_, .int .i64 s.key, .int .i64 s.val]] w fun e w' => e = .returned (.bool (isStepP k s)) ∧ Below w.heap.size w w' := by
  obtain ⟨a, d, ky, v⟩ := s
  go_enter Try.func65, Try.ntmps65
  go_wp2_with (go_at_call 93; refine (refIn_any _ _).mono ?_; rintro e w' ⟨rfl, rfl⟩)
  all_goals
    go_ret
    refine ⟨ret_bool ?_, (Below.refl _ _).alloc (Nat.le_refl _) _⟩
    simp only [isStepP, withinP] at *
    grind
theorem refStep_is {k : Int} {s : Step} {r : Bool} (h : isStepP k s = r) (w : World) : Calls Try.prog 65 #[.int .i64 k, .agg #[.int .i64 s.at_, .int .i64 s.do_, .int .i64 s.key, .int .i64 s.val]] w fun e w' => e = .returned (.bool r) ∧ Below w.heap.size w w' :=
  (refStep_any k s w).mono fun e w' h' => ⟨by rw [h'.1, h], h'.2⟩
theorem isLineP_good {k : Int} {l : List Step} (h : okTo k l l.length) : isLineP k l = ((decide (1 ≤ k) && decide (k ≤ 3)) && decide (l.length ≤ 60)) := by
  have a : l.all (isStepP k) = true := by
    rw [List.all_eq_true]
    intro x hx
    obtain ⟨i, hi, rfl⟩ := List.getElem_of_mem hx
    exact h.1 i _ hi (List.getElem?_eq_getElem hi)
  have b : incP l = true := (incP_iff l).2 fun i x y e1 e2 => h.2 i x y (List.getElem?_eq_some_iff.1 e2).1 e1 e2
  simp only [isLineP, a, b, Bool.and_true]
set_option maxHeartbeats 4000000 in
theorem good_any (k : Int) (v : Value) (l : List Step) (w : World) (hr : Rd Step.cells 4 w v l) :
    Calls Try.prog 42 #[.agg #[.int .i64 k, v]] w fun e w' => e = .returned (.bool (isLineP k l)) ∧ Below w.heap.size w w' := by
  obtain ⟨hn, a, c, rfl, hr⟩ := hr
  go_enter Try.func42, Try.ntmps42
  go_wp2
  go_loopw [8] (fun i W => ∃ n : Nat, i = .int .i64 n ∧ n ≤ l.length ∧ okTo k l n ∧ Below w.heap.size w W ∧ w.heap.size < W.heap.size ∧ W.cell? ⟨w.heap.size, 0, none⟩ = some (.int .i64 k) ∧ W.cell? ⟨w.heap.size, 1, none⟩ = some (.slice a l.length c)) (fun i _ => l.length - (intOf i).toNat)
  case atStart => exact ⟨0, rfl, by omega, okTo_zero _ _, (Below.refl _ _).alloc (Nat.le_refl _) _, by simp, by simp, by simp⟩
  case round =>
    obtain ⟨n, rfl, hnl, hok, hB, hlt, hc0, hc1⟩ := hrel
    have hr0 := hr; clear hr
    by_cases hlt' : n < l.length
    · obtain ⟨b, off, rfl, hbl, hrd⟩ := hr0 (by omega)
      have hx := List.getElem?_eq_getElem hlt'
      generalize l[n] = s at hx
      have hcell : ∀ j u, s.cells[j]? = some u → wr.cell? ⟨b, off + n * 4 + j, none⟩ = some u := fun j u hu => (hB.cell (p := ⟨b, _, none⟩) hbl).trans (hrd n s hx j u hu)
      have q0 : wr.cell? ⟨b, off + n * 4, none⟩ = some (.int .i64 s.at_) := hcell 0 _ rfl
      have q1 := hcell 1 _ rfl
      have q2 := hcell 2 _ rfl
      have q3 := hcell 3 _ rfl
      clear hcell hr0
      have HX := Lib.hid hx; clear hx
      by_cases hs : isStepP k s = true
      · have HC := Lib.hid (refStep_is hs)
        have HS := Lib.hid hs; clear hs
        by_cases h0 : n ≤ 0
        · have hd : decide (0 < n) = false := by simp; omega
          go_wp2
          refine named_box wr _ _ fun W0 hb0 hz0 hbx => ?_
          have d0 := fun p : Ext W0 => p.cell (hbx 0)
          have d1 := fun p : Ext W0 => p.cell (hbx 1)
          have d2 := fun p : Ext W0 => p.cell (hbx 2)
          have d3 := fun p : Ext W0 => p.cell (hbx 3)
          have d4 := fun p : Ext W0 => p.cell (below_cell hb0 hc0)
          have HC1 := Lib.hid (below_cell hb0 hc1)
          have HC0 := Lib.hid (below_cell hb0 hc0)
          clear hbx hc0 hc1 q0 q1 q2 q3
          refine wp_region_ext (by kernel_rfl) (by kernel_rfl) ?_
          repeat (go_big_quiet_step ((go_at_call 65; exact Ext.of (HC.out _))))
          refine wpQuiet_nil ?_
          rintro _ ⟨⟨W1, hb1⟩, rfl⟩
          go_wp2
          go_roundw
          case rel =>
            obtain rfl : n = 0 := by omega
            exact ⟨1, rfl, by omega, okTo_one HX.out HS.out, (hB.trans (hb0.mono hB.size)).trans (hb1.mono (by have := hB.size; omega)), by have := hb1.size; omega, below_cell hb1 HC0.out, below_cell hb1 HC1.out⟩
          case measure => simp [intOf]; omega
        · obtain ⟨m, rfl⟩ : ∃ m, n = m + 1 := ⟨n - 1, by omega⟩
          have hp := List.getElem?_eq_getElem (show m < l.length by omega)
          generalize l[m] = p0 at hp
          have r0 : wr.cell? ⟨b, off + m * 4, none⟩ = some (.int .i64 p0.at_) := (hB.cell (p := ⟨b, _, none⟩) hbl).trans (hrd m p0 hp 0 _ rfl)
          have HP := Lib.hid hp; clear hp
          by_cases hle : p0.at_ < s.at_
          · go_wp2
            refine named_box wr _ _ fun W0 hb0 hz0 hbx => ?_
            have d0 := fun p : Ext W0 => p.cell (hbx 0)
            have d1 := fun p : Ext W0 => p.cell (hbx 1)
            have d2 := fun p : Ext W0 => p.cell (hbx 2)
            have d3 := fun p : Ext W0 => p.cell (hbx 3)
            have d4 := fun p : Ext W0 => p.cell (below_cell hb0 hc0)
            have d5 := fun p : Ext W0 => p.cell (below_cell hb0 hc1)
            have d6 := fun p : Ext W0 => p.cell (below_cell hb0 r0)
            have HC1 := Lib.hid (below_cell hb0 hc1)
            have HC0 := Lib.hid (below_cell hb0 hc0)
            clear hbx hc0 hc1 q0 q1 q2 q3 r0
            refine wp_region_ext (by kernel_rfl) (by kernel_rfl) ?_
            repeat (go_big_quiet_step ((go_at_call 65; exact Ext.of (HC.out _))))
            refine wpQuiet_nil ?_
            rintro _ ⟨⟨W1, hb1⟩, rfl⟩
            go_wp2
            go_roundw
            case rel => exact ⟨m + 2, by go_num, by omega, okTo_succ hok HP.out HX.out HS.out hle, (hB.trans (hb0.mono hB.size)).trans (hb1.mono (by have := hB.size; omega)), by have := hb1.size; omega, below_cell hb1 HC0.out, below_cell hb1 HC1.out⟩
            case measure => simp [intOf]; omega
          · go_wp2
            refine named_box wr _ _ fun W0 hb0 hz0 hbx => ?_
            have d0 := fun p : Ext W0 => p.cell (hbx 0)
            have d1 := fun p : Ext W0 => p.cell (hbx 1)
            have d2 := fun p : Ext W0 => p.cell (hbx 2)
            have d3 := fun p : Ext W0 => p.cell (hbx 3)
            have d4 := fun p : Ext W0 => p.cell (below_cell hb0 hc0)
            have d5 := fun p : Ext W0 => p.cell (below_cell hb0 hc1)
            have d6 := fun p : Ext W0 => p.cell (below_cell hb0 r0)
            have HC1 := Lib.hid (below_cell hb0 hc1)
            have HC0 := Lib.hid (below_cell hb0 hc0)
            clear hbx hc0 hc1 q0 q1 q2 q3 r0
            refine wp_region_ext (by kernel_rfl) (by kernel_rfl) ?_
            repeat (go_big_quiet_step ((go_at_call 65; exact Ext.of (HC.out _))))
            refine wpQuiet_nil ?_
            rintro _ ⟨⟨W1, hb1⟩, rfl⟩
            go_wp2
            go_ret
            exact ⟨by rw [isLineP_bad2 HP.out HX.out (by omega)]; rfl, (hB.trans (hb0.mono hB.size)).trans (hb1.mono (by have := hB.size; omega))⟩
      · have hs' : isStepP k s = false := by simpa using hs
        have HC := Lib.hid (refStep_is hs')
        have HS := Lib.hid hs'; clear hs hs'
        go_wp2
        refine named_box wr _ _ fun W0 hb0 hz0 hbx => ?_
        have d0 := fun p : Ext W0 => p.cell (hbx 0)
        have d1 := fun p : Ext W0 => p.cell (hbx 1)
        have d2 := fun p : Ext W0 => p.cell (hbx 2)
        have d3 := fun p : Ext W0 => p.cell (hbx 3)
        have d4 := fun p : Ext W0 => p.cell (below_cell hb0 hc0)
        clear hbx hc0 hc1 q0 q1 q2 q3
        refine wp_region_ext (by kernel_rfl) (by kernel_rfl) ?_
        repeat (go_big_quiet_step ((go_at_call 65; exact Ext.of (HC.out _))))
        refine wpQuiet_nil ?_
        rintro _ ⟨⟨W1, hb1⟩, rfl⟩
        go_wp2
        go_ret
        exact ⟨by rw [isLineP_bad1 HX.out HS.out]; rfl, (hB.trans (hb0.mono hB.size)).trans (hb1.mono (by have := hB.size; omega))⟩
    · obtain rfl : n = l.length := by omega
      have hG := isLineP_good hok
      have HG := Lib.hid hG
      clear hr0 hok hG
      by_cases hk : (decide (1 ≤ k) && decide (k ≤ 3)) = true
      · go_wp2_with (go_at_call 73; refine (refKind_any _ _).mono ?_; rintro e w' ⟨rfl, rfl⟩)
        go_ret
        exact ⟨ret_bool (by rw [HG.out, hk]; simp; omega), hB⟩
      · have hk' : (decide (1 ≤ k) && decide (k ≤ 3)) = false := by simpa using hk
        clear hk
        go_wp2_with (go_at_call 73; refine (refKind_any _ _).mono ?_; rintro e w' ⟨rfl, rfl⟩)
        go_ret
        exact ⟨ret_bool (by rw [HG.out, hk']; simp), hB⟩

set_option maxHeartbeats 1000000 in
theorem check_any (k : Int) (v : Value) (l : List Step) (w : World) (hr : Rd Step.cells 4 w v l) :
    Calls Try.prog 32 #[.agg #[.int .i64 k, v]] w fun e w' => e = .returned (.int .i64 (checkP k l)) ∧ Below w.heap.size w w' := by
  obtain ⟨a, c, rfl⟩ : ∃ a c, v = .slice a l.length c := by obtain ⟨_, a, c, rfl, _⟩ := hr; exact ⟨a, c, rfl⟩
  cases hi : isLineP k l
  all_goals
    have hcon := (isLine_any k _ l _ (hr.below ((Below.refl w.heap.size w).alloc (Nat.le_refl _) (.cells #[.int .i64 k, .slice a l.length c] 25))))
    rw [hi] at hcon
    have HC := Lib.hid (And.intro hcon hi)
    clear hi hcon hr
    go_enter Try.func32, Try.ntmps32
    go_wp2_with (go_at_call 54; refine HC.out.1.mono ?_; rintro e w1 ⟨rfl, hb1⟩)
    go_ret
    exact ⟨ret_int (by simp [checkP, HC.out.2]), ((Below.refl w.heap.size w).alloc (Nat.le_refl _) _).trans (hb1.mono (by simp))⟩

set_option maxHeartbeats 1000000 in
theorem refCheck_any (k : Int) (v : Value) (l : List Step) (w : World) (hr : Rd Step.cells 4 w v l) :
    Calls Try.prog 33 #[.agg #[.int .i64 k, v]] w fun e w' => e = .returned (.int .i64 (checkP k l)) ∧ Below w.heap.size w w' := by
  obtain ⟨a, c, rfl⟩ : ∃ a c, v = .slice a l.length c := by obtain ⟨_, a, c, rfl, _⟩ := hr; exact ⟨a, c, rfl⟩
  cases hi : isLineP k l
  all_goals
    have hcon := (good_any k _ l _ (hr.below ((Below.refl w.heap.size w).alloc (Nat.le_refl _) (.cells #[.int .i64 k, .slice a l.length c] 25))))
    rw [hi] at hcon
    have HC := Lib.hid (And.intro hcon hi)
    clear hi hcon hr
    go_enter Try.func33, Try.ntmps33
    go_wp2_with (go_at_call 42; refine HC.out.1.mono ?_; rintro e w1 ⟨rfl, hb1⟩)
    go_ret
    exact ⟨ret_int (by simp [checkP, HC.out.2]), ((Below.refl w.heap.size w).alloc (Nat.le_refl _) _).trans (hb1.mono (by simp))⟩

end Go.Proofs.Ytkoeplbkeboklaa
