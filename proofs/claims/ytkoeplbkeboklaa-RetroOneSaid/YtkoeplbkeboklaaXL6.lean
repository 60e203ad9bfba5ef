/- slices.IndexFunc and slices.ContainsFunc at spans and pairs; the laws' own tests of a span. -/
import Derived.Test.YtkoeplbkeboklaaM8
set_option linter.unusedVariables false
set_option linter.unusedSimpArgs false
namespace Go.Proofs.Ytkoeplbkeboklaa
open Go.RowKit
def idxFrom {α : Type} (p : α → Bool) : List α → Nat → Int
  | [], _ => -1
  | x :: l, n => if p x then n else idxFrom p l (n + 1)
theorem idxFrom_drop {α : Type} {p : α → Bool} {xs : List α} {n : Nat} {x : α} (h : xs[n]? = some x) : idxFrom p (xs.drop n) n = if p x then (n : Int) else idxFrom p (xs.drop (n + 1)) (n + 1) := by
  obtain ⟨hlt, rfl⟩ := List.getElem?_eq_some_iff.1 h
  rw [List.drop_eq_getElem_cons hlt, idxFrom]
theorem idxFrom_any {α : Type} (p : α → Bool) : ∀ (l : List α) (n : Nat), decide (0 ≤ idxFrom p l n) = l.any p
  | [], n => by simp [idxFrom]
  | x :: l, n => by
    rw [idxFrom, List.any_cons]
    cases hp : p x with
    | true => simp
    | false => simp [idxFrom_any p l (n + 1)]
set_option maxHeartbeats 1000000 in
theorem spans_idx (G : FuncId) (q : Value) (p : Span → Bool) (v : Value) (xs : List Span) (w : World) (hr : Rd Span.cells 2 w v xs) (he : ∀ args w, (callFunc G args).run Try.prog w = .ok (.enter G args) w)
    (hp : ∀ W x, x ∈ xs → Below w.heap.size w W → Calls Try.prog G #[.agg #[.int .i64 x.from_, .int .i64 x.to_], q] W fun e w' => e = .returned (.bool (p x)) ∧ Below W.heap.size W w') :
    Calls Try.prog 75 #[v, .func (.func G) #[] #[q]] w fun e w' => e = .returned (.int .i64 (idxFrom p xs 0)) ∧ Below w.heap.size w w' := by
  obtain ⟨a, c, rfl⟩ : ∃ a c, v = .slice a xs.length c := by obtain ⟨_, a, c, rfl, _⟩ := hr; exact ⟨a, c, rfl⟩
  have hl63 := hr.1
  have HR := Lib.hid hr
  have HP := Lib.hid hp
  have HB := Lib.hid (Below.refl w.heap.size w)
  clear hr hp
  go_enter Try.func75, Try.ntmps75
  go_wp2
  go_loopw [8] (fun i W => ∃ (n : Nat), i = .int .i64 n ∧ n ≤ xs.length ∧ idxFrom p (xs.drop n) n = idxFrom p xs 0 ∧ Below w.heap.size w W) (fun i _ => xs.length - (intOf i).toNat)
  case atStart => exact ⟨0, rfl, by omega, rfl, HB.out⟩
  case round =>
    obtain ⟨n, rfl, hnl, hi, hB⟩ := hrel
    by_cases hlt : n < xs.length
    · have hx := List.getElem?_eq_getElem hlt
      have hmem : xs[n] ∈ xs := List.getElem_mem hlt
      generalize xs[n] = x at hx hmem
      obtain ⟨b, off, rfl, hbl, hc⟩ := rd_at (HR.out.below hB) hx
      have q0 : wr.cell? ⟨b, off + n * 2, none⟩ = some (.int .i64 x.from_) := hc 0 _ rfl
      have q1 := hc 1 _ rfl
      have hd := idxFrom_drop (p := p) hx
      rw [hi] at hd
      have HX := Lib.hid (And.intro hd (And.intro hB (HP.out wr x hmem hB)))
      clear hd hB hi hc hx hmem
      cases hpx : p x with
      | true =>
        have HPX := Lib.hid hpx
        clear hpx
        go_wp2_with (refine (HX.out.2.2).mono ?_; rintro e w2 ⟨rfl, hb2⟩; rw [HPX.out])
        go_ret
        exact ⟨ret_int (by rw [HX.out.1, if_pos HPX.out]), HX.out.2.1.trans (hb2.mono HX.out.2.1.size)⟩
      | false =>
        have HPX := Lib.hid hpx
        clear hpx
        go_wp2_with (refine (HX.out.2.2).mono ?_; rintro e w2 ⟨rfl, hb2⟩; rw [HPX.out])
        go_roundw
        case rel => exact ⟨n + 1, by go_num, by omega, by rw [HX.out.1, HPX.out]; rfl, HX.out.2.1.trans (hb2.mono HX.out.2.1.size)⟩
        case measure => simp [intOf]; omega
    · obtain rfl : n = xs.length := by omega
      have HX := Lib.hid (And.intro hi hB)
      clear hi hB
      go_wp2
      go_ret
      exact ⟨ret_int (by rw [← HX.out.1, List.drop_length]; rfl), HX.out.2⟩

set_option maxHeartbeats 1000000 in
theorem pairs_idx (G : FuncId) (q : Value) (p : Pair → Bool) (v : Value) (xs : List Pair) (w : World) (hr : Rd Pair.cells 2 w v xs) (he : ∀ args w, (callFunc G args).run Try.prog w = .ok (.enter G args) w)
    (hp : ∀ W x, x ∈ xs → Below w.heap.size w W → Calls Try.prog G #[.agg #[.int .i64 x.key, .int .i64 x.val], q] W fun e w' => e = .returned (.bool (p x)) ∧ Below W.heap.size W w') :
    Calls Try.prog 78 #[v, .func (.func G) #[] #[q]] w fun e w' => e = .returned (.int .i64 (idxFrom p xs 0)) ∧ Below w.heap.size w w' := by
  obtain ⟨a, c, rfl⟩ : ∃ a c, v = .slice a xs.length c := by obtain ⟨_, a, c, rfl, _⟩ := hr; exact ⟨a, c, rfl⟩
  have hl63 := hr.1
  have HR := Lib.hid hr
  have HP := Lib.hid hp
  have HB := Lib.hid (Below.refl w.heap.size w)
  clear hr hp
  go_enter Try.func78, Try.ntmps78
  go_wp2
  go_loopw [8] (fun i W => ∃ (n : Nat), i = .int .i64 n ∧ n ≤ xs.length ∧ idxFrom p (xs.drop n) n = idxFrom p xs 0 ∧ Below w.heap.size w W) (fun i _ => xs.length - (intOf i).toNat)
  case atStart => exact ⟨0, rfl, by omega, rfl, HB.out⟩
  case round =>
    obtain ⟨n, rfl, hnl, hi, hB⟩ := hrel
    by_cases hlt : n < xs.length
    · have hx := List.getElem?_eq_getElem hlt
      have hmem : xs[n] ∈ xs := List.getElem_mem hlt
      generalize xs[n] = x at hx hmem
      obtain ⟨b, off, rfl, hbl, hc⟩ := rd_at (HR.out.below hB) hx
      have q0 : wr.cell? ⟨b, off + n * 2, none⟩ = some (.int .i64 x.key) := hc 0 _ rfl
      have q1 := hc 1 _ rfl
      have hd := idxFrom_drop (p := p) hx
      rw [hi] at hd
      have HX := Lib.hid (And.intro hd (And.intro hB (HP.out wr x hmem hB)))
      clear hd hB hi hc hx hmem
      cases hpx : p x with
      | true =>
        have HPX := Lib.hid hpx
        clear hpx
        go_wp2_with (refine (HX.out.2.2).mono ?_; rintro e w2 ⟨rfl, hb2⟩; rw [HPX.out])
        go_ret
        exact ⟨ret_int (by rw [HX.out.1, if_pos HPX.out]), HX.out.2.1.trans (hb2.mono HX.out.2.1.size)⟩
      | false =>
        have HPX := Lib.hid hpx
        clear hpx
        go_wp2_with (refine (HX.out.2.2).mono ?_; rintro e w2 ⟨rfl, hb2⟩; rw [HPX.out])
        go_roundw
        case rel => exact ⟨n + 1, by go_num, by omega, by rw [HX.out.1, HPX.out]; rfl, HX.out.2.1.trans (hb2.mono HX.out.2.1.size)⟩
        case measure => simp [intOf]; omega
    · obtain rfl : n = xs.length := by omega
      have HX := Lib.hid (And.intro hi hB)
      clear hi hB
      go_wp2
      go_ret
      exact ⟨ret_int (by rw [← HX.out.1, List.drop_length]; rfl), HX.out.2⟩

theorem spans_has (G : FuncId) (q : Value) (p : Span → Bool) (v : Value) (xs : List Span) (w : World) (hr : Rd Span.cells 2 w v xs) (he : ∀ args w, (callFunc G args).run Try.prog w = .ok (.enter G args) w)
    (hp : ∀ W x, x ∈ xs → Below w.heap.size w W → Calls Try.prog G #[.agg #[.int .i64 x.from_, .int .i64 x.to_], q] W fun e w' => e = .returned (.bool (p x)) ∧ Below W.heap.size W w') :
    Calls Try.prog 44 #[v, .func (.func G) #[] #[q]] w fun e w' => e = .returned (.bool (xs.any p)) ∧ Below w.heap.size w w' := by
  have HI := Lib.hid (spans_idx G q p v xs w hr he hp)
  have ha := idxFrom_any p xs 0
  have HA := Lib.hid ha
  clear ha hr hp he
  generalize idxFrom p xs 0 = r at *
  go_enter Try.func44, Try.ntmps44
  go_wp2_with (go_at_call 75; refine HI.out.mono ?_; rintro e w2 ⟨rfl, hb2⟩)
  go_ret
  exact ⟨ret_bool HA.out, hb2⟩
theorem inSpan_any (f t at_ : Int) (T : Nat) (w : World) (hc : w.cell? ⟨T, 0, none⟩ = some (.int .i64 at_)) : Calls Try.prog 45 #[.agg #[.int .i64 f, .int .i64 t], .pointer (some ⟨T, 0, none⟩)] w fun e w' => e = .returned (.bool (decide (f ≤ at_) && decide (at_ ≤ t))) ∧ Below w.heap.size w w' := by
  have hb := fun o => (Below.refl w.heap.size w).alloc (Nat.le_refl _) o
  have e0 := fun o => below_cell (hb o) hc
  have HB := Lib.hid hb
  clear hb
  by_cases h1 : f ≤ at_ <;> by_cases h2 : at_ ≤ t <;> (go_enter Try.func45, Try.ntmps45; go_wp2; go_ret; exact ⟨ret_bool (by simp [h1, h2]), HB.out _⟩)
theorem toSpan_any (f t at_ : Int) (T : Nat) (w : World) (hc : w.cell? ⟨T, 0, none⟩ = some (.int .i64 at_)) : Calls Try.prog 46 #[.agg #[.int .i64 f, .int .i64 t], .pointer (some ⟨T, 0, none⟩)] w fun e w' => e = .returned (.bool (decide (at_ ≤ t))) ∧ Below w.heap.size w w' := by
  have hb := fun o => (Below.refl w.heap.size w).alloc (Nat.le_refl _) o
  have e0 := fun o => below_cell (hb o) hc
  have HB := Lib.hid hb
  clear hb
  by_cases h2 : at_ ≤ t <;> (go_enter Try.func46, Try.ntmps46; go_wp2; go_ret; exact ⟨ret_bool (by simp [h2]), HB.out _⟩)
end Go.Proofs.Ytkoeplbkeboklaa
