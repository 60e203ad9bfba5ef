/- slices.Backward at steps: the iterator. -/
import Derived.Test.YtkoeplbkeboklaaXL12
import Derived.Test.YtkoeplbkeboklaaM8
set_option linter.unusedVariables false
set_option linter.unusedSimpArgs false
namespace Go.Proofs.Ytkoeplbkeboklaa
open Go.RowKit Go.Shelf
attribute [local go_sem] Oper.semAt_some
theorem back_any (a : Option Addr) (n c : Nat) (w : World) : Calls Try.prog 51 #[.slice a n c] w fun e w' => e = .returned (.func (.func 77) #[] #[.pointer (some ⟨w.heap.size, 0, none⟩)]) ∧ w.alloc (.cells #[.slice a n c] 23) = w' := by
  go_enter Try.func51, Try.ntmps51
  go_wp2
  go_ret
  exact ⟨rfl, rfl⟩
set_option maxHeartbeats 4000000 in
theorem back1_in (n L Bn : Nat) (a : Option Addr) (c : Nat) (l : List Step) (hl : l.length ≤ 100000) (W0 : World) (M : Nat → Prop) (J : Nat → World → Prop)
    (hbox : W0.cell? ⟨Bn, 0, none⟩ = some (.slice a l.length c)) (hr : Rd Step.cells 4 W0 (.slice a l.length c) l) (hMB : ¬ M Bn) (hMv : ∀ i, some i = (Value.slice a l.length c).ownBlock → l = [] ∨ ¬ M i)
    (h0 : J l.length W0)
    (hY : ∀ i s W, l[i]? = some s → J (i + 1) W → Fr (fun j => M j) W0 W → YieldAt Fence.wide n Try.prog L #[.int .i64 i, .agg #[.int .i64 s.at_, .int .i64 s.do_, .int .i64 s.key, .int .i64 s.val]] W fun e W' => e = .returned (.bool true) ∧ J i W' ∧ Fr (fun j => M j ∨ W0.heap.size ≤ j) W W') :
    CallsIn Fence.wide (n + 1) Try.prog 77 #[.func (.yield L) #[] #[], .pointer (some ⟨Bn, 0, none⟩)] W0 fun e W' => (∃ v, e = .returned v) ∧ J 0 W' ∧ Fr (fun j => M j) W0 W' := by
  have HR := Lib.hid (And.intro hr hY)
  have HJ := Lib.hid h0
  have hw0 : IntKind.i64.wrap ((l.length : Int) - 1) = (l.length : Int) - 1 := Go.IntWalk.i64_in _ (by omega)
  clear hr hY h0
  refine callsIn_of_wp Try.func77 rfl trivial ?_ rfl
  simp only [Try.ntmps77, List.size_toArray, List.length_cons, List.length_nil, Nat.reduceAdd, Nat.reduceSub, Array.replicate_succ, Array.replicate_zero, List.push_toArray, List.append_toArray, List.nil_append, List.cons_append]
  gi_wp2
  gi_loopw [3] (fun i W => ∃ m : Nat, i = .int .i64 ((m : Int) - 1) ∧ m ≤ l.length ∧ J m W ∧ Fr (fun j => M j) W0 W) (fun i _ => (intOf i + 1).toNat)
  case atStart => exact ⟨l.length, rfl, by omega, HJ.out, fr_refl _ _⟩
  case round =>
    obtain ⟨m, rfl, hml, hJ, hF⟩ := hrel
    rcases Nat.eq_zero_or_pos m with h0 | h0
    · subst h0
      have HZ := Lib.hid (And.intro hJ hF)
      clear hJ hF
      gi_wp2
      go_end0
      exact ⟨⟨_, rfl⟩, HZ.out.1, HZ.out.2⟩
    · obtain ⟨i, rfl⟩ : ∃ i, m = i + 1 := ⟨m - 1, by omega⟩
      have hi : (((i + 1 : Nat) : Int) - 1) = (i : Int) := by omega
      rw [hi]
      have hx := List.getElem?_eq_getElem (show i < l.length by omega)
      generalize l[i] = s at hx
      have hrd := rd_move HR.out.1 hF fun j hj => (hMv j hj).resolve_left fun h => by subst h; simp at hml
      have g0 := fr_cell hF hbox (by exact hMB)
      obtain ⟨b, off, rfl, hbl, hc⟩ := rd_at hrd hx
      have q0 : wr.cell? ⟨b, off + i * 4, none⟩ = some (.int .i64 s.at_) := hc 0 _ rfl
      have q1 := hc 1 _ rfl
      have q2 := hc 2 _ rfl
      have q3 := hc 3 _ rfl
      have hw1 : IntKind.i64.wrap ((i : Int) - 1) = (i : Int) - 1 := Go.IntWalk.i64_in _ (by omega)
      have i0 : (0 : Int) ≤ (i : Int) := by omega
      obtain ⟨fn, tmps, assign, body, hy, hR⟩ := HR.out.2 i s wr hx hJ hF
      have HX := Lib.hid hF
      clear hx hJ hF hrd hc hi
      gi_wp2_with (refine hR.mono ?_; rintro e w3 ⟨rfl, hJ3, hF3⟩; have HZ := Lib.hid (And.intro hJ3 (fr_trans HX.out hF3 fun j hj h => h.elim id fun h => absurd h (by omega))); clear hJ3 hF3)
      go_roundw
      case rel => exact ⟨i, rfl, by omega, HZ.out.1, HZ.out.2⟩
      case measure => simp [intOf]
end Go.Proofs.Ytkoeplbkeboklaa
