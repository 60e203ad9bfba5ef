/- slices.Clone at steps and at pairs. -/
import Derived.Test.YtkoeplbkeboklaaXL6
set_option linter.unusedVariables false
set_option linter.unusedSimpArgs false
namespace Go.Proofs.Ytkoeplbkeboklaa
open Go.RowKit
set_option maxRecDepth 10000 in
set_option maxHeartbeats 1000000 in
theorem cloneSteps (v : Value) (l : List Step) (w : World) (hr : Rd Step.cells 4 w v l) (hl : l.length ≤ 100000) :
    Calls Try.prog 74 #[v] w fun e w' => ∃ v', e = .returned v' ∧ Win Step.cells 4 39 w' v' (fun i => w.heap.size ≤ i) l ∧ Below w.heap.size w w' := by
  obtain ⟨a, c, rfl⟩ : ∃ a c, v = .slice a l.length c := by obtain ⟨_, a, c, rfl, _⟩ := hr; exact ⟨a, c, rfl⟩
  have HR := Lib.hid (rdC_of_rd step_len (by decide) step_one hr)
  have HB := Lib.hid (Below.refl w.heap.size w)
  have hz := hr.2
  clear hr
  cases a with
  | none =>
    have h0 : l = [] := by
      obtain ⟨a', c', he, hh⟩ := hz
      rcases Nat.eq_zero_or_pos l.length with h0 | h0
      · exact List.eq_nil_of_length_eq_zero h0
      · obtain ⟨b, off, rfl, _⟩ := hh h0
        injection he with he1; cases he1
    subst h0
    clear hz
    have heq : ∀ w, (binOp .eql 23 (.slice none 0 c) (.slice none 0 0)).run Try.prog w = .ok (.bool true) w := fun _ => by kernel_rfl
    go_enter Try.func74, Try.ntmps74
    go_wp2
    go_ret
    exact ⟨_, rfl, winC_nil _ _ _ _, HB.out⟩
  | some a =>
    clear hz
    have heq : ∀ w, (binOp .eql 23 (.slice (some a) l.length c) (.slice none 0 0)).run Try.prog w = .ok (.bool false) w := fun _ => by kernel_rfl
    go_enter Try.func74, Try.ntmps74
    go_wp2_with (at_builtin; (refine wpList_append_rd _ (by rfl) _ _ _ (by rfl) 39 4 32 _ Try.underlying23 info_step rfl (by decide) _ (fun i => i = w.heap.size) 0 [] (by rfl) _ (by rfl) ⟨by simp, .inr ⟨w.heap.size, 0, 0, #[], rfl, rfl, heap_alloc_new w _, Nat.le_refl _, by unfold maxLen; omega, by simp, by simp⟩⟩ l.length _ (rdC_below HR.out ((Below.refl _ _).alloc (Nat.le_refl _) _)) (by unfold maxLen; omega) (by omega) ?_); intro v2 w2 hwin2 hfr2 hsz2; simp only [Nat.zero_add, List.nil_append] at hwin2; obtain ⟨a2, c2, rfl, hn2, hm2⟩ := winC_slice hwin2)
    go_ret
    have hb2 : Below w.heap.size w w2 := ((Below.refl _ _).alloc (Nat.le_refl _) _).trans (below_of_fr hfr2 (by simp) fun i hi => by have h : some i = some w.heap.size := hi; injection h with h; omega)
    exact ⟨_, rfl, winC_mono hwin2 fun i hi => by rcases hi with h | h; exact Nat.le_of_eq h.1.symm; simp at h; omega, hb2⟩

set_option maxRecDepth 10000 in
set_option maxHeartbeats 1000000 in
theorem clonePairs (v : Value) (l : List Pair) (w : World) (hr : Rd Pair.cells 2 w v l) (hl : l.length ≤ 100000) :
    Calls Try.prog 53 #[v] w fun e w' => ∃ v', e = .returned v' ∧ Win Pair.cells 2 60 w' v' (fun i => w.heap.size ≤ i) l ∧ Below w.heap.size w w' := by
  obtain ⟨a, c, rfl⟩ : ∃ a c, v = .slice a l.length c := by obtain ⟨_, a, c, rfl, _⟩ := hr; exact ⟨a, c, rfl⟩
  have HR := Lib.hid (rdC_of_rd pair_len (by decide) pair_one hr)
  have HB := Lib.hid (Below.refl w.heap.size w)
  have hz := hr.2
  clear hr
  cases a with
  | none =>
    have h0 : l = [] := by
      obtain ⟨a', c', he, hh⟩ := hz
      rcases Nat.eq_zero_or_pos l.length with h0 | h0
      · exact List.eq_nil_of_length_eq_zero h0
      · obtain ⟨b, off, rfl, _⟩ := hh h0
        injection he with he1; cases he1
    subst h0
    clear hz
    have heq : ∀ w, (binOp .eql 49 (.slice none 0 c) (.slice none 0 0)).run Try.prog w = .ok (.bool true) w := fun _ => by kernel_rfl
    go_enter Try.func53, Try.ntmps53
    go_wp2
    go_ret
    exact ⟨_, rfl, winC_nil _ _ _ _, HB.out⟩
  | some a =>
    clear hz
    have heq : ∀ w, (binOp .eql 49 (.slice (some a) l.length c) (.slice none 0 0)).run Try.prog w = .ok (.bool false) w := fun _ => by kernel_rfl
    go_enter Try.func53, Try.ntmps53
    go_wp2_with (at_builtin; (refine wpList_append_rd _ (by rfl) _ _ _ (by rfl) 60 2 16 _ Try.underlying49 info_pair rfl (by decide) _ (fun i => i = w.heap.size) 0 [] (by rfl) _ (by rfl) ⟨by simp, .inr ⟨w.heap.size, 0, 0, #[], rfl, rfl, heap_alloc_new w _, Nat.le_refl _, by unfold maxLen; omega, by simp, by simp⟩⟩ l.length _ (rdC_below HR.out ((Below.refl _ _).alloc (Nat.le_refl _) _)) (by unfold maxLen; omega) (by omega) ?_); intro v2 w2 hwin2 hfr2 hsz2; simp only [Nat.zero_add, List.nil_append] at hwin2; obtain ⟨a2, c2, rfl, hn2, hm2⟩ := winC_slice hwin2)
    go_ret
    have hb2 : Below w.heap.size w w2 := ((Below.refl _ _).alloc (Nat.le_refl _) _).trans (below_of_fr hfr2 (by simp) fun i hi => by have h : some i = some w.heap.size := hi; injection h with h; omega)
    exact ⟨_, rfl, winC_mono hwin2 fun i hi => by rcases hi with h | h; exact Nat.le_of_eq h.1.symm; simp at h; omega, hb2⟩

end Go.Proofs.Ytkoeplbkeboklaa
