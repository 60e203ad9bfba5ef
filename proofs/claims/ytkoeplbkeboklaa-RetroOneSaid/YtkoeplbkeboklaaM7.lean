/- My texts of layer 14, joined: R22, R23, R20, R33, R34, R19, R8b. -/
import Derived.Test.YtkoeplbkeboklaaM6
/- slices.BinarySearchFunc at a line's steps with retro.place$1. -/
set_option linter.unusedVariables false
set_option linter.unusedSimpArgs false
namespace Go.Proofs.Ytkoeplbkeboklaa
open Go.RowKit
set_option maxHeartbeats 2000000 in
theorem bsearch_any (v : Value) (l : List Step) (t : Int) (w : World) (hr : Rd Step.cells 4 w v l) (hi : incP l = true) (hl : l.length ≤ 100000) :
    Calls Try.prog 84 #[v, .int .i64 t, .func (.func 85) #[] #[]] w fun e w' => e = .returned (.tuple #[.int .i64 (placeAt t l : Nat), .bool (hasP l t)]) ∧ Below w.heap.size w w' := by
  obtain ⟨a, c, rfl⟩ : ∃ a c, v = .slice a l.length c := by obtain ⟨_, a, c, rfl, _⟩ := hr; exact ⟨a, c, rfl⟩
  have HR := Lib.hid hr
  have HP := Lib.hid (fun i s h => placeAt_iff (t := t) (incP_pair hi) (i := i) (s := s) h)
  have hle := placeAt_le t l
  have HH := Lib.hid (show hasP l t = match l[placeAt t l]? with | some s => s.at_ == t | none => false from rfl)
  clear hr hi
  generalize placeAt t l = p at *
  go_enter Try.func84, Try.ntmps84
  go_wp2
  go_loopw [9, 10] (fun i j W => ∃ m n : Nat, i = .int .i64 m ∧ j = .int .i64 n ∧ m ≤ p ∧ p ≤ n ∧ n ≤ l.length ∧ Below w.heap.size w W) (fun i j _ => (intOf j).toNat - (intOf i).toNat)
  case atStart => exact ⟨0, l.length, rfl, rfl, by omega, hle, by omega, Below.refl _ _⟩
  case round =>
    obtain ⟨m, n, rfl, rfl, hm, hn, hnl, hB⟩ := hrel
    by_cases hmn : m < n
    · obtain ⟨q, hq⟩ : ∃ q, q = (m + n) / 2 := ⟨_, rfl⟩
      have hqi : ((m : Int) + (n : Int)) / 2 = (q : Int) := by omega
      have hmq : m ≤ q := by omega
      have hqn : q < n := by omega
      have hql : q < l.length := by omega
      have hx := List.getElem?_eq_getElem hql
      generalize l[q] = s at hx
      obtain ⟨b, off, rfl, hbl, hc⟩ := rd_at (HR.out.below hB) hx
      have q0 : wr.cell? ⟨b, off + q * 4, none⟩ = some (.int .i64 s.at_) := hc 0 _ rfl
      have q1 := hc 1 _ rfl
      have q2 := hc 2 _ rfl
      have q3 := hc 3 _ rfl
      have hs := HP.out q s hx
      by_cases hst : s.at_ < t
      · have hcm : cmpP s.at_ t = -1 := by simp [cmpP, hst]
        have hqp := hs.1 hst
        have HC := Lib.hid (hcm ▸ placeCmp_any s t wr)
        clear hc hx hs hst hcm hq
        go_wp2_with (go_at_call 85; refine HC.out.mono ?_; rintro e w2 ⟨rfl, hb2⟩)
        go_roundw
        case rel => exact ⟨q + 1, n, by go_num, rfl, by omega, hn, hnl, hB.trans (hb2.mono hB.size)⟩
        case measure => simp [intOf]; omega
      · have hcm : 0 ≤ cmpP s.at_ t := by unfold cmpP; split; omega; split <;> omega
        have hqp : p ≤ q := by have := fun h => hst (hs.2 h); omega
        obtain ⟨z, hz⟩ : ∃ z, cmpP s.at_ t = z := ⟨_, rfl⟩
        rw [hz] at hcm
        have hzb : decide (z < 0) = false := by simp; omega
        have HC := Lib.hid (hz ▸ placeCmp_any s t wr)
        clear hc hx hs hst hz hq
        go_wp2_with (go_at_call 85; refine HC.out.mono ?_; rintro e w2 ⟨rfl, hb2⟩)
        go_roundw
        case rel => exact ⟨m, q, rfl, rfl, hm, hqp, by omega, hB.trans (hb2.mono hB.size)⟩
        case measure => simp [intOf]; omega
    · obtain rfl : m = p := by omega
      obtain rfl : n = m := by omega
      by_cases hlt : n < l.length
      · have hlb : decide ((n : Int) < (l.length : Int)) = true := by simp; omega
        have hx := List.getElem?_eq_getElem hlt
        generalize l[n] = s at hx
        obtain ⟨b, off, rfl, hbl, hc⟩ := rd_at (HR.out.below hB) hx
        have q0 : wr.cell? ⟨b, off + n * 4, none⟩ = some (.int .i64 s.at_) := hc 0 _ rfl
        have q1 := hc 1 _ rfl
        have q2 := hc 2 _ rfl
        have q3 := hc 3 _ rfl
        have hh : hasP l t = (cmpP s.at_ t == 0) := by
          rw [HH.out, hx]
          show (s.at_ == t) = _
          unfold cmpP
          by_cases h1 : s.at_ < t
          · rw [if_pos h1]; simp; omega
          · rw [if_neg h1]
            by_cases h2 : s.at_ > t
            · rw [if_pos h2]; simp; omega
            · rw [if_neg h2]; simp; omega
        have HC := Lib.hid (placeCmp_any s t wr)
        have HE := Lib.hid hh
        clear hc hx hh
        go_wp2_with (go_at_call 85; refine HC.out.mono ?_; rintro e w2 ⟨rfl, hb2⟩)
        all_goals
          go_ret2
          exact ⟨by rw [HE.out]; rfl, hB.trans (hb2.mono hB.size)⟩
      · have hlb : decide ((n : Int) < (l.length : Int)) = false := by simp; omega
        have HE := Lib.hid (show hasP l t = false by rw [HH.out, List.getElem?_eq_none (by omega)])
        go_wp2
        go_ret2
        exact ⟨by rw [HE.out]; rfl, hB⟩
end Go.Proofs.Ytkoeplbkeboklaa
/- retro.place: where a time stands in a line, and whether a step is there. -/
set_option linter.unusedVariables false
set_option linter.unusedSimpArgs false
namespace Go.Proofs.Ytkoeplbkeboklaa
open Go.RowKit
set_option maxHeartbeats 1000000 in
theorem rplace_any (k : Int) (v : Value) (l : List Step) (t : Int) (w : World) (hr : Rd Step.cells 4 w v l) (hi : incP l = true) (hl : l.length ≤ 100000) :
    Calls Try.prog 61 #[.agg #[.int .i64 k, v], .int .i64 t] w fun e w' => e = .returned (.tuple #[.int .i64 (placeAt t l : Nat), .bool (hasP l t)]) ∧ Below w.heap.size w w' := by
  have HC := Lib.hid (fun W (h : Rd Step.cells 4 W v l) => bsearch_any v l t W h hi hl)
  have HB := Lib.hid (fun o => (Below.refl w.heap.size w).alloc (Nat.le_refl _) o)
  have HR := Lib.hid hr
  obtain ⟨a, c, rfl⟩ : ∃ a c, v = .slice a l.length c := by obtain ⟨_, a, c, rfl, _⟩ := hr; exact ⟨a, c, rfl⟩
  clear hr hi
  generalize placeAt t l = p at *
  generalize hasP l t = q at *
  go_enter Try.func61, Try.ntmps61
  go_wp2_with (go_at_call 84; refine (HC.out _ (HR.out.below (HB.out _))).mono ?_; rintro e w1 ⟨rfl, hb1⟩)
  go_ret2
  exact ⟨rfl, (HB.out _).trans (hb1.mono (by simp))⟩
end Go.Proofs.Ytkoeplbkeboklaa
/- retro.fresh: a copy of a line's steps. -/
set_option linter.unusedVariables false
set_option linter.unusedSimpArgs false
namespace Go.Proofs.Ytkoeplbkeboklaa
open Go.RowKit
set_option maxHeartbeats 2000000 in
theorem fresh_any (v : Value) (l : List Step) (w : World) (hr : Rd Step.cells 4 w v l) (hl : l.length ≤ 100000) :
    Calls Try.prog 63 #[v] w fun e w' => ∃ v', e = .returned v' ∧ Win Step.cells 4 39 w' v' (fun i => w.heap.size ≤ i) l ∧ Below w.heap.size w w' := by
  obtain ⟨a, c, rfl⟩ : ∃ a c, v = .slice a l.length c := by obtain ⟨_, a, c, rfl, _⟩ := hr; exact ⟨a, c, rfl⟩
  have HR := Lib.hid (rdC_of_rd step_len (by decide) step_one hr)
  clear hr
  go_enter Try.func63, Try.ntmps63
  go_wp2_with (at_builtin; (refine wpList_append_rd w (by rfl) _ _ _ (by rfl) 39 4 32 _ Try.underlying23 info_step rfl (by decide) _ (fun _ => False) 0 [] (by rfl) _ (by rfl) (winC_nil _ _ _ _) l.length _ HR.out (by unfold maxLen; omega) (by omega) ?_); intro v2 w2 hwin2 hfr2 hsz2; simp only [Nat.zero_add, List.nil_append] at hwin2; obtain ⟨a2, c2, rfl, hn2, hm2⟩ := winC_slice hwin2)
  go_ret
  exact ⟨_, rfl, winC_mono hwin2 fun i hi => by simp at hi; omega, below_of_fr hfr2 (Nat.le_refl _) fun i hi => nomatch hi⟩
end Go.Proofs.Ytkoeplbkeboklaa
/- retro.Delete. -/
set_option linter.unusedVariables false
set_option linter.unusedSimpArgs false
namespace Go.Proofs.Ytkoeplbkeboklaa
open Go.RowKit
theorem delSteps_w (a : Option Addr) (c : Nat) (S : Nat → Prop) (l : List Step) (i : Nat) (w : World) (hw : Win Step.cells 4 39 w (.slice a l.length c) S l) (hi : i < l.length) (hl : l.length ≤ 100000) :
    Calls Try.prog 68 #[.slice a l.length c, .int .i64 i, .int .i64 (i + 1)] w fun e w' => ∃ v, e = .returned v ∧ Win Step.cells 4 39 w' v (fun j => some j = (Value.slice a l.length c).ownBlock) (withoutP l i) ∧ Fr (fun j => some j = (Value.slice a l.length c).ownBlock) w w' := by
  have hw2 := winC_mono (winC_block hw) (T := fun j => some j = (Value.slice a l.length c).ownBlock) fun i hi => hi.1
  obtain ⟨m, hm⟩ : ∃ m, l.length = m + 1 := ⟨l.length - 1, by omega⟩
  obtain ⟨g, off, rfl⟩ : ∃ g off, a = some ⟨g, off, none⟩ := by
    rcases hw.2 with ⟨h1, h2⟩ | ⟨g, off, cap, cur, hv, _⟩
    · omega
    · injection hv with h1; exact ⟨g, off, h1⟩
  have hw3 : Win Step.cells 4 39 w (.slice (some ⟨g, off, none⟩) (m + 1) c) (fun j => some j = (Value.slice (some ⟨g, off, none⟩) l.length c).ownBlock) l := by
    rw [← hm]; exact hw2
  rw [hm]
  refine (delSteps_any g off c m i _ l w hw3 hm (by omega) (by omega)).mono ?_
  rintro e w' ⟨v, rfl, h1, h2⟩
  exact ⟨v, rfl, by rw [hm] at h1; exact h1, fr_mono h2 fun j hj => by rw [hj]; rfl⟩
set_option maxHeartbeats 4000000 in
theorem rDelete_any (k : Int) (v : Value) (l : List Step) (t : Int) (w : World) (hr : Rd Step.cells 4 w v l) :
    Calls Try.prog 25 #[.agg #[.int .i64 k, v], .int .i64 t] w fun e w' =>
      ∃ v' vs, e = .returned (.tuple #[.agg #[.int .i64 (deleteP k l t).1.1, v'], vs, .int .i64 (deleteP k l t).2.2]) ∧ Win Step.cells 4 39 w' v' (fun i => w.heap.size ≤ i) (deleteP k l t).1.2 ∧ Win Span.cells 2 58 w' vs (fun i => w.heap.size ≤ i) (deleteP k l t).2.1 ∧ Below w.heap.size w w' := by
  obtain ⟨a, c, rfl⟩ : ∃ a c, v = .slice a l.length c := by obtain ⟨_, a, c, rfl, _⟩ := hr; exact ⟨a, c, rfl⟩
  have HR := Lib.hid hr
  have HC := Lib.hid (fun W h => isLine_any k _ l W (hr.below h))
  clear hr
  cases hl : isLineP k l with
  | false =>
    have hat : deleteP k l t = ((0, []), [], 2) := by simp [deleteP, hl]
    rw [hat]
    rw [hl] at HC
    clear hat hl
    go_enter Try.func25, Try.ntmps25
    go_wp2_with fail
    refine named_box2 (G := fun W => Calls _ _ _ W _) w _ _ _ _ fun W0 hb0 hz0 hx0 hx1 => ?_
    refine (HC.out _ hb0).mono ?_
    rintro e w1 ⟨rfl, hb1⟩
    have hB := hb0.trans (hb1.mono (by omega))
    have hr2 := (hb1.block _ (by omega)).trans hx1
    have f0 := cell_blk hr2 0
    have f1 := cell_blk hr2 1
    have k0 := free_blk hr2 0
    have k1 := free_blk hr2 1
    have hE := line_end (k := 0) hB.size hB hr2 (by omega) (win_nil Step.cells 4 39 w1 (fun i => i ≠ w.heap.size + 1 ∧ w.heap.size ≤ i)) (fun i hi => hi)
    have HE := Lib.hid (hE _ rfl)
    clear hE hB hr2
    go_wp2
    have g0 := HE.out.1
    have g1 := HE.out.2.1
    exact bodyPost_ret (v := .tuple #[.agg #[.int .i64 0, .slice none 0 0], .slice none 0 0, .int .i64 2]) (by simp [results, Try.results25, go_sem, g0, g1]) rfl ⟨_, _, rfl, winC_nil _ _ _ _, winC_nil _ _ _ _, HE.out.2.2.2⟩

  | true =>
    rw [hl] at HC
    have hlen := line_len hl
    have HL := Lib.hid hl
    have HH := Lib.hid (fun W h => rplace_any k _ l t W (HR.out.below h) (isLineP_spec hl).2.2.2.2 (by omega))
    clear hl
    cases hh : hasP l t with
    | false =>
      have hat : deleteP k l t = ((0, []), [], 5) := by simp [deleteP, HL.out, hh]
      rw [hat]
      rw [hh] at HH
      clear hat hh
      go_enter Try.func25, Try.ntmps25
      go_wp2_with fail
      refine named_box2 (G := fun W => Calls _ _ _ W _) w _ _ _ _ fun W0 hb0 hz0 hx0 hx1 => ?_
      refine (HC.out _ hb0).mono ?_
      rintro e w1 ⟨rfl, hb1⟩
      have hB1 := hb0.trans (hb1.mono (by omega))
      have hz1 := hb1.size
      have d0 : w1.cell? ⟨w.heap.size, 0, none⟩ = some (.int .i64 k) := below_cell hb1 (cell_blk hx0 0)
      have d1 : w1.cell? ⟨w.heap.size, 1, none⟩ = some (.slice a l.length c) := below_cell hb1 (cell_blk hx0 1)
      have HB1 := Lib.hid (And.intro hB1 (And.intro ((hb1.block _ (by omega)).trans hx1) hz1))
      clear hB1 hx0 hx1 hb0 hb1
      go_wp2_with fail
      refine (HH.out _ HB1.out.1).mono ?_
      rintro e w3 ⟨rfl, hb3⟩
      have hB3 := HB1.out.1.trans (hb3.mono HB1.out.1.size)
      have p0 := below_cell hb3 d0
      have p1 := below_cell hb3 d1
      have hz3 := hb3.size
      have HB3 := Lib.hid (And.intro hB3 (And.intro ((hb3.block _ (by omega)).trans HB1.out.2.1) trivial))
      clear hb3 hB3 d0 d1
      have d0 := p0; have d1 := p1
      clear p0 p1

      have hB := HB3.out.1
      have hr2 := HB3.out.2.1
      have f0 := cell_blk hr2 0
      have f1 := cell_blk hr2 1
      have k0 := free_blk hr2 0
      have k1 := free_blk hr2 1
      have hE := line_end (k := 0) hB.size hB hr2 (by omega) (win_nil Step.cells 4 39 w3 (fun i => i ≠ w.heap.size + 1 ∧ w.heap.size ≤ i)) (fun i hi => hi)
      have HE := Lib.hid (hE _ rfl)
      clear hE hB hr2
      go_wp2
      have g0 := HE.out.1
      have g1 := HE.out.2.1
      exact bodyPost_ret (v := .tuple #[.agg #[.int .i64 0, .slice none 0 0], .slice none 0 0, .int .i64 5]) (by simp [results, Try.results25, go_sem, g0, g1]) rfl ⟨_, _, rfl, winC_nil _ _ _ _, winC_nil _ _ _ _, HE.out.2.2.2⟩

    | true =>
      have hat : deleteP k l t = ((k, withoutP l (placeAt t l)), diffOf k l (withoutP l (placeAt t l)), 0) := by simp [deleteP, HL.out, hh]
      rw [hat]
      rw [hh] at HH
      have hpl := has_lt hh
      have hlw := isLineP_without (placeAt t l) HL.out
      have hle := (without_sub l (placeAt t l)).length_le
      have HWO := Lib.hid (fun a c S W h => delSteps_w a c S l (placeAt t l) W h hpl (by omega))
      clear hat hh
      generalize hq : placeAt t l = q at *
      generalize hwl : withoutP l q = lw at *
      have HW := Lib.hid hlw
      clear hlw
      have hqw : IntKind.i64.wrap ((q : Int) + 1) = (q : Int) + 1 := Go.IntWalk.i64_in _ (by omega)
      have EF := Lib.hid (enters_of Try.func63 (by kernel_rfl) rfl)
      have EX := Lib.hid (enters_of Try.func68 (by kernel_rfl) rfl)
      go_enter Try.func25, Try.ntmps25
      go_wp2_with fail
      refine named_box2 (G := fun W => Calls _ _ _ W _) w _ _ _ _ fun W0 hb0 hz0 hx0 hx1 => ?_
      refine (HC.out _ hb0).mono ?_
      rintro e w1 ⟨rfl, hb1⟩
      have hB1 := hb0.trans (hb1.mono (by omega))
      have hz1 := hb1.size
      have d0 : w1.cell? ⟨w.heap.size, 0, none⟩ = some (.int .i64 k) := below_cell hb1 (cell_blk hx0 0)
      have d1 : w1.cell? ⟨w.heap.size, 1, none⟩ = some (.slice a l.length c) := below_cell hb1 (cell_blk hx0 1)
      have HB1 := Lib.hid (And.intro hB1 (And.intro ((hb1.block _ (by omega)).trans hx1) hz1))
      clear hB1 hx0 hx1 hb0 hb1
      go_wp2_with fail
      refine (HH.out _ HB1.out.1).mono ?_
      rintro e w3 ⟨rfl, hb3⟩
      have hB3 := HB1.out.1.trans (hb3.mono HB1.out.1.size)
      have p0 := below_cell hb3 d0
      have p1 := below_cell hb3 d1
      have hz3 := hb3.size
      have HB3 := Lib.hid (And.intro hB3 (And.intro ((hb3.block _ (by omega)).trans HB1.out.2.1) trivial))
      clear hb3 hB3 d0 d1
      have d0 := p0; have d1 := p1
      clear p0 p1

      have hzz : w.heap.size + 1 < w3.heap.size := by omega
      go_wp2
      set_option maxRecDepth 10000 in
      go_region_held3 (fun W => W.cell? ⟨w.heap.size, 0, none⟩ = some (.int .i64 k) ∧ W.cell? ⟨w.heap.size, 1, none⟩ = some (.slice a l.length c)) (first | exact ⟨d0, d1⟩ | exact ⟨p0, p1⟩ | exact ⟨r0, r1⟩ | exact ⟨fr_cell (stored2 w4 w5.heap.size _ _) r0 (fun h => by have h2 : w.heap.size = w5.heap.size := h; omega), fr_cell (stored2 w4 w5.heap.size _ _) r1 (fun h => by have h2 : w.heap.size = w5.heap.size := h; omega)⟩ | exact ⟨fr_cell (stored2 w4 w3.heap.size _ _) r0 (fun h => by have h2 : w.heap.size = w3.heap.size := h; omega), fr_cell (stored2 w4 w3.heap.size _ _) r1 (fun h => by have h2 : w.heap.size = w3.heap.size := h; omega)⟩ | go_keep) ((first | (refine step_call (by rfl) 68 _ _ (by rfl) (EX.out) _ (by rfl) (HWO.out _ _ _ _ (by first | exact hw5 | exact winC_move hw5 (fr_alloc (fun _ => False) w5 _) (fun _ _ h => h))) ?_; rintro _ w4 ⟨v4, rfl, hw4, hf4⟩; obtain ⟨a4, c4, rfl, _, _⟩ := winC_slice hw4; refine ⟨_, rfl, ?_⟩; have hb34 : Below w3.heap.size w3 w4 := (by first | exact hb35.trans (below_of_fr hf4 hb35.size fun i hi => (hob i hi).1) | exact (hb35.alloc hb35.size _).trans (below_of_fr hf4 (by have := hb35.size; simp; omega) fun i hi => (hob i hi).1)); have r0 := below_cell hb34 d0; have r1 := below_cell hb34 d1; try (have yr := (hf4.block w5.heap.size (by simp) (fun h => by have := (hob _ h).2; omega)).trans (heap_alloc_new w5 (.cells #[.int .i64 0, .slice none 0 0] 25)); have y0 : w4.cell? ⟨w5.heap.size, 0, none⟩ = some (.int .i64 0) := cell_blk yr 0; have y1 : w4.cell? ⟨w5.heap.size, 1, none⟩ = some (.slice none 0 0) := cell_blk yr 1; have k0 := free_blk yr 0; have k1 := free_blk yr 1)) | (refine step_call (by rfl) 63 _ _ (by rfl) (EF.out) _ (by rfl) (fresh_any _ l _ (HR.out.below (by first | exact HB3.out.1.drew | exact HB3.out.1.drew.alloc HB3.out.1.size _)) (by omega)) ?_; rintro _ w5 ⟨v5, rfl, hw5, hb5⟩; obtain ⟨af, cf, rfl, _, _⟩ := winC_slice hw5; refine ⟨_, rfl, ?_⟩; have hb35 : Below w3.heap.size w3 w5 := (by first | exact (Below.refl _ _).drew.trans hb5 | exact ((Below.refl _ _).drew.alloc (Nat.le_refl _) _).trans (hb5.mono (by simp [drew_size]))); have hob : ∀ i, some i = (Value.slice af l.length cf).ownBlock → w3.heap.size ≤ i ∧ i < w5.heap.size := fun i hi => (by have := winC_ob hw5 i hi; first | omega | (simp [drew_size] at this; omega)); have hs5 := hb35.size; have p0 := below_cell hb35 d0; have p1 := below_cell hb35 d1; try (have hba : Below (w3.alloc (.cells #[.int .i64 0, .slice none 0 0] 25)).heap.size (w3.alloc (.cells #[.int .i64 0, .slice none 0 0] 25)) w5 := (Below.refl _ _).drew.trans hb5; have xr := (hba.block w3.heap.size (by simp)).trans (heap_alloc_new w3 (.cells #[.int .i64 0, .slice none 0 0] 25)); have hsx := hba.size; have hox : ∀ i, some i = (Value.slice af l.length cf).ownBlock → w3.heap.size < i := fun i hi => (by have := winC_ob hw5 i hi; simp [drew_size] at this; omega); clear hba)) | (have yr := (hf4.block w3.heap.size (by first | omega | (simp at hsx; omega)) (fun h => by have := hox _ h; omega)).trans xr; have y0 : w4.cell? ⟨w3.heap.size, 0, none⟩ = some (.int .i64 0) := cell_blk yr 0; have y1 : w4.cell? ⟨w3.heap.size, 1, none⟩ = some (.slice none 0 0) := cell_blk yr 1; have k0 := free_blk yr 0; have k1 := free_blk yr 1; clear xr; go_simp) | fail))

      · refine named_box w4 _ _ fun W5 hbx hzx hx5 => ?_
        have u0 : W5.cell? ⟨w4.heap.size, 0, none⟩ = some (.int .i64 k) := hx5 0
        have u1 : W5.cell? ⟨w4.heap.size, 1, none⟩ = some (.slice a4 lw.length c4) := hx5 1
        have hF5 : Fr (fun i => i = w4.heap.size) w4 W5 := fr_of_below hbx
        have hz5 : w4.heap.size < W5.heap.size := by omega
        clear hx5 hbx
        have hw4' : Win Step.cells 4 39 w4 (.slice a4 lw.length c4) (fun i => w3.heap.size ≤ i ∧ i < w4.heap.size ∧ ¬ i = w4.heap.size) lw := winC_mono (winC_block hw4) fun i hi => ⟨(hob i hi.2.1).1, hi.2.2, by have := hi.2.2; omega⟩
        have hBz := HB3.out.1.size
        have hB4 : Below w.heap.size w w4 := HB3.out.1.trans (hb34.mono hBz)
        have hs34 := hb34.size
        have hB6' : Below w.heap.size w W5 := hB4.trans (below_of_fr hF5 hB4.size fun i hi => by have h2 : i = w4.heap.size := hi; omega)
        have hr5 := (hF5.block (w.heap.size + 1) (by omega) (fun h => by have h2 : w.heap.size + 1 = w4.heap.size := h; omega)).trans ((hb34.block (w.heap.size + 1) (by omega)).trans HB3.out.2.1)
        have z0 := fr_cell hF5 r0 (fun h => by have h2 : w.heap.size = w4.heap.size := h; omega)
        have z1 := fr_cell hF5 r1 (fun h => by have h2 : w.heap.size = w4.heap.size := h; omega)
        have f0 := cell_blk hr5 0
        have f1 := cell_blk hr5 1
        have k0 := free_blk hr5 0
        have k1 := free_blk hr5 1
        have hw5' : Win Step.cells 4 39 W5 (.slice a4 lw.length c4) (fun i => i ≠ w.heap.size + 1 ∧ w.heap.size ≤ i) lw := winC_mono (winC_move hw4' hF5 (fun i hi h => hi.2.2 h)) fun i hi => ⟨by omega, by omega⟩
        have hDC := spans_any k _ _ l lw W5.drew ((HR.out.below hB6').below (Below.refl _ _).drew) ((win_rd step_len hw5').below (Below.refl _ _).drew) (by omega) (by omega) (lines_time HL.out HW.out)
        have H5 := Lib.hid (And.intro hB6' (And.intro hr5 (And.intro hw5' hDC)))
        clear hb34 hB6' hr5 hw4 hw4' hw5' hDC d0 d1 p0 p1 r0 r1 hF5 hB4 hw5 hb5 hb35 hf4 hob
        have hX : w.heap.size + 1 < w4.heap.size := by omega
        generalize w4.heap.size = X at *
        go_wp2

        have ED := Lib.hid (enters_of Try.func64 (by kernel_rfl) rfl)
        set_option maxRecDepth 10000 in
        go_region_held3 (fun W => W.cell? ⟨X, 0, none⟩ = some (.int .i64 k) ∧ W.cell? ⟨X, 1, none⟩ = some (.slice a4 lw.length c4) ∧ W.cell? ⟨w.heap.size, 0, none⟩ = some (.int .i64 k) ∧ W.cell? ⟨w.heap.size, 1, none⟩ = some (.slice a l.length c)) (first | exact ⟨u0, u1, z0, z1⟩ | exact ⟨p0, p1, p2, p3⟩ | exact ⟨fr_cell (stored2 w6 (w.heap.size + 1) _ _) p0 (fun h => by have h2 : X = w.heap.size + 1 := h; omega), fr_cell (stored2 w6 (w.heap.size + 1) _ _) p1 (fun h => by have h2 : X = w.heap.size + 1 := h; omega), fr_cell (stored2 w6 (w.heap.size + 1) _ _) p2 (fun h => by have h2 : w.heap.size = w.heap.size + 1 := h; omega), fr_cell (stored2 w6 (w.heap.size + 1) _ _) p3 (fun h => by have h2 : w.heap.size = w.heap.size + 1 := h; omega)⟩ | go_keep) ((first | (refine step_call (by rfl) 64 _ _ (by rfl) (ED.out) _ (by rfl) H5.out.2.2.2 ?_; rintro _ w6 ⟨v6, rfl, hw6, hb6⟩; obtain ⟨a6, c6, rfl, _, _⟩ := winC_slice hw6; refine ⟨_, rfl, ?_⟩; have hb6' := (Below.refl W5.heap.size W5).drew.trans hb6; have p0 := below_cell hb6' u0; have p1 := below_cell hb6' u1; have p2 := below_cell hb6' z0; have p3 := below_cell hb6' z1; have q0 := below_cell hb6' f0; have q1 := below_cell hb6' f1; have k2 := below_frozen hb6' (a := ⟨w.heap.size + 1, 0, none⟩) (by show w.heap.size + 1 < _; omega) k0; have k3 := below_frozen hb6' (a := ⟨w.heap.size + 1, 1, none⟩) (by show w.heap.size + 1 < _; omega) k1) | fail))
        all_goals
          have hB6 := H5.out.1.trans (hb6'.mono H5.out.1.size)
          have hr6 := (hb6'.block _ (by omega)).trans H5.out.2.1
          have hw6l : Win Step.cells 4 39 w6 (.slice a4 lw.length c4) (fun i => i ≠ w.heap.size + 1 ∧ w.heap.size ≤ i) lw := winC_move H5.out.2.2.1 (fr_of_below (S := fun _ => False) hb6') (fun _ _ h => h)
          have hE := line_end (k := k) hB6.size hB6 hr6 (by omega) hw6l (fun i hi => hi)
          have HE := Lib.hid (hE _ rfl)
          have hsp : Win Span.cells 2 58 ((w6.setCell ⟨w.heap.size + 1, 0, none⟩ (.int .i64 k)).setCell ⟨w.heap.size + 1, 1, none⟩ (.slice a4 lw.length c4)) (.slice a6 (diffOf k l lw).length c6) (fun i => w.heap.size ≤ i) (diffOf k l lw) := winC_mono (winC_move hw6 (stored2 w6 (w.heap.size + 1) _ _) (fun i hi h => by have h2 : i = w.heap.size + 1 := h; simp [drew_size] at hi; omega)) fun i hi => by have := H5.out.1.size; simp [drew_size] at hi; omega
          have HSP := Lib.hid hsp
          clear hE hB6 hr6 hw6l hsp p0 p1 p2 p3 q0 q1 k2 k3 hw6 hb6 hb6' u0 u1 z0 z1 f0 f1 k0 k1
          generalize (w6.setCell ⟨w.heap.size + 1, 0, none⟩ (.int .i64 k)).setCell ⟨w.heap.size + 1, 1, none⟩ (.slice a4 lw.length c4) = W7 at *
          have g0 := HE.out.1
          have g1 := HE.out.2.1
          go_wp2
          exact bodyPost_ret (v := .tuple #[.agg #[.int .i64 k, .slice a4 lw.length c4], .slice a6 (diffOf k l lw).length c6, .int .i64 0]) (by simp [results, Try.results25, go_sem, g0, g1]) rfl ⟨_, _, rfl, by (try rw [hwl]); exact HE.out.2.2.1, by (try rw [hwl]); exact HSP.out, HE.out.2.2.2⟩

      · have hxw := (Array.getElem?_eq_some_iff.1 yr).1
        refine named_store2 yr _ _ fun W5 hF5 u0 u1 hz5 => ?_
        clear yr y0 y1 k0 k1
        have hw4' : Win Step.cells 4 39 w4 (.slice a4 lw.length c4) (fun i => w3.heap.size ≤ i ∧ i < w4.heap.size ∧ ¬ i = w5.heap.size) lw := winC_mono (winC_block hw4) fun i hi => ⟨(hob i hi.2.1).1, hi.2.2, by have := (hob i hi.2.1).2; omega⟩
        have hBz := HB3.out.1.size
        have hB4 : Below w.heap.size w w4 := HB3.out.1.trans (hb34.mono hBz)
        have hs34 := hb34.size
        have hB6' : Below w.heap.size w W5 := hB4.trans (below_of_fr hF5 hB4.size fun i hi => by have h2 : i = w5.heap.size := hi; omega)
        have hr5 := (hF5.block (w.heap.size + 1) (by omega) (fun h => by have h2 : w.heap.size + 1 = w5.heap.size := h; omega)).trans ((hb34.block (w.heap.size + 1) (by omega)).trans HB3.out.2.1)
        have z0 := fr_cell hF5 r0 (fun h => by have h2 : w.heap.size = w5.heap.size := h; omega)
        have z1 := fr_cell hF5 r1 (fun h => by have h2 : w.heap.size = w5.heap.size := h; omega)
        have f0 := cell_blk hr5 0
        have f1 := cell_blk hr5 1
        have k0 := free_blk hr5 0
        have k1 := free_blk hr5 1
        have hw5' : Win Step.cells 4 39 W5 (.slice a4 lw.length c4) (fun i => i ≠ w.heap.size + 1 ∧ w.heap.size ≤ i) lw := winC_mono (winC_move hw4' hF5 (fun i hi h => hi.2.2 h)) fun i hi => ⟨by omega, by omega⟩
        have hDC := spans_any k _ _ l lw W5.drew ((HR.out.below hB6').below (Below.refl _ _).drew) ((win_rd step_len hw5').below (Below.refl _ _).drew) (by omega) (by omega) (lines_time HL.out HW.out)
        have H5 := Lib.hid (And.intro hB6' (And.intro hr5 (And.intro hw5' hDC)))
        clear hb34 hB6' hr5 hw4 hw4' hw5' hDC d0 d1 p0 p1 r0 r1 hF5 hB4 hw5 hb5 hb35 hf4 hob
        have hX : w.heap.size + 1 < w5.heap.size := by omega
        generalize w5.heap.size = X at *
        go_wp2

        have ED := Lib.hid (enters_of Try.func64 (by kernel_rfl) rfl)
        set_option maxRecDepth 10000 in
        go_region_held3 (fun W => W.cell? ⟨X, 0, none⟩ = some (.int .i64 k) ∧ W.cell? ⟨X, 1, none⟩ = some (.slice a4 lw.length c4) ∧ W.cell? ⟨w.heap.size, 0, none⟩ = some (.int .i64 k) ∧ W.cell? ⟨w.heap.size, 1, none⟩ = some (.slice a l.length c)) (first | exact ⟨u0, u1, z0, z1⟩ | exact ⟨p0, p1, p2, p3⟩ | exact ⟨fr_cell (stored2 w6 (w.heap.size + 1) _ _) p0 (fun h => by have h2 : X = w.heap.size + 1 := h; omega), fr_cell (stored2 w6 (w.heap.size + 1) _ _) p1 (fun h => by have h2 : X = w.heap.size + 1 := h; omega), fr_cell (stored2 w6 (w.heap.size + 1) _ _) p2 (fun h => by have h2 : w.heap.size = w.heap.size + 1 := h; omega), fr_cell (stored2 w6 (w.heap.size + 1) _ _) p3 (fun h => by have h2 : w.heap.size = w.heap.size + 1 := h; omega)⟩ | go_keep) ((first | (refine step_call (by rfl) 64 _ _ (by rfl) (ED.out) _ (by rfl) H5.out.2.2.2 ?_; rintro _ w6 ⟨v6, rfl, hw6, hb6⟩; obtain ⟨a6, c6, rfl, _, _⟩ := winC_slice hw6; refine ⟨_, rfl, ?_⟩; have hb6' := (Below.refl W5.heap.size W5).drew.trans hb6; have p0 := below_cell hb6' u0; have p1 := below_cell hb6' u1; have p2 := below_cell hb6' z0; have p3 := below_cell hb6' z1; have q0 := below_cell hb6' f0; have q1 := below_cell hb6' f1; have k2 := below_frozen hb6' (a := ⟨w.heap.size + 1, 0, none⟩) (by show w.heap.size + 1 < _; omega) k0; have k3 := below_frozen hb6' (a := ⟨w.heap.size + 1, 1, none⟩) (by show w.heap.size + 1 < _; omega) k1) | fail))
        all_goals
          have hB6 := H5.out.1.trans (hb6'.mono H5.out.1.size)
          have hr6 := (hb6'.block _ (by omega)).trans H5.out.2.1
          have hw6l : Win Step.cells 4 39 w6 (.slice a4 lw.length c4) (fun i => i ≠ w.heap.size + 1 ∧ w.heap.size ≤ i) lw := winC_move H5.out.2.2.1 (fr_of_below (S := fun _ => False) hb6') (fun _ _ h => h)
          have hE := line_end (k := k) hB6.size hB6 hr6 (by omega) hw6l (fun i hi => hi)
          have HE := Lib.hid (hE _ rfl)
          have hsp : Win Span.cells 2 58 ((w6.setCell ⟨w.heap.size + 1, 0, none⟩ (.int .i64 k)).setCell ⟨w.heap.size + 1, 1, none⟩ (.slice a4 lw.length c4)) (.slice a6 (diffOf k l lw).length c6) (fun i => w.heap.size ≤ i) (diffOf k l lw) := winC_mono (winC_move hw6 (stored2 w6 (w.heap.size + 1) _ _) (fun i hi h => by have h2 : i = w.heap.size + 1 := h; simp [drew_size] at hi; omega)) fun i hi => by have := H5.out.1.size; simp [drew_size] at hi; omega
          have HSP := Lib.hid hsp
          clear hE hB6 hr6 hw6l hsp p0 p1 p2 p3 q0 q1 k2 k3 hw6 hb6 hb6' u0 u1 z0 z1 f0 f1 k0 k1
          generalize (w6.setCell ⟨w.heap.size + 1, 0, none⟩ (.int .i64 k)).setCell ⟨w.heap.size + 1, 1, none⟩ (.slice a4 lw.length c4) = W7 at *
          have g0 := HE.out.1
          have g1 := HE.out.2.1
          go_wp2
          exact bodyPost_ret (v := .tuple #[.agg #[.int .i64 k, .slice a4 lw.length c4], .slice a6 (diffOf k l lw).length c6, .int .i64 0]) (by simp [results, Try.results25, go_sem, g0, g1]) rfl ⟨_, _, rfl, by (try rw [hwl]); exact HE.out.2.2.1, by (try rw [hwl]); exact HSP.out, HE.out.2.2.2⟩

      · have hxw := (Array.getElem?_eq_some_iff.1 yr).1
        refine named_store2 yr _ _ fun W5 hF5 u0 u1 hz5 => ?_
        clear yr y0 y1 k0 k1
        have hw4' : Win Step.cells 4 39 w4 (.slice a4 lw.length c4) (fun i => w3.heap.size ≤ i ∧ i < w4.heap.size ∧ ¬ i = w3.heap.size) lw := winC_mono (winC_block hw4) fun i hi => ⟨(hob i hi.2.1).1, hi.2.2, by have := hox i hi.2.1; omega⟩
        clear hox hsx
        have hBz := HB3.out.1.size
        have hB4 : Below w.heap.size w w4 := HB3.out.1.trans (hb34.mono hBz)
        have hs34 := hb34.size
        have hB6' : Below w.heap.size w W5 := hB4.trans (below_of_fr hF5 hB4.size fun i hi => by have h2 : i = w3.heap.size := hi; omega)
        have hr5 := (hF5.block (w.heap.size + 1) (by omega) (fun h => by have h2 : w.heap.size + 1 = w3.heap.size := h; omega)).trans ((hb34.block (w.heap.size + 1) (by omega)).trans HB3.out.2.1)
        have z0 := fr_cell hF5 r0 (fun h => by have h2 : w.heap.size = w3.heap.size := h; omega)
        have z1 := fr_cell hF5 r1 (fun h => by have h2 : w.heap.size = w3.heap.size := h; omega)
        have f0 := cell_blk hr5 0
        have f1 := cell_blk hr5 1
        have k0 := free_blk hr5 0
        have k1 := free_blk hr5 1
        have hw5' : Win Step.cells 4 39 W5 (.slice a4 lw.length c4) (fun i => i ≠ w.heap.size + 1 ∧ w.heap.size ≤ i) lw := winC_mono (winC_move hw4' hF5 (fun i hi h => hi.2.2 h)) fun i hi => ⟨by omega, by omega⟩
        have hDC := spans_any k _ _ l lw W5.drew ((HR.out.below hB6').below (Below.refl _ _).drew) ((win_rd step_len hw5').below (Below.refl _ _).drew) (by omega) (by omega) (lines_time HL.out HW.out)
        have H5 := Lib.hid (And.intro hB6' (And.intro hr5 (And.intro hw5' hDC)))
        clear hb34 hB6' hr5 hw4 hw4' hw5' hDC d0 d1 p0 p1 r0 r1 hF5 hB4 hw5 hb5 hb35 hf4 hob
        have hX : w.heap.size + 1 < w3.heap.size := by omega
        generalize w3.heap.size = X at *
        go_wp2

        have ED := Lib.hid (enters_of Try.func64 (by kernel_rfl) rfl)
        set_option maxRecDepth 10000 in
        go_region_held3 (fun W => W.cell? ⟨X, 0, none⟩ = some (.int .i64 k) ∧ W.cell? ⟨X, 1, none⟩ = some (.slice a4 lw.length c4) ∧ W.cell? ⟨w.heap.size, 0, none⟩ = some (.int .i64 k) ∧ W.cell? ⟨w.heap.size, 1, none⟩ = some (.slice a l.length c)) (first | exact ⟨u0, u1, z0, z1⟩ | exact ⟨p0, p1, p2, p3⟩ | exact ⟨fr_cell (stored2 w6 (w.heap.size + 1) _ _) p0 (fun h => by have h2 : X = w.heap.size + 1 := h; omega), fr_cell (stored2 w6 (w.heap.size + 1) _ _) p1 (fun h => by have h2 : X = w.heap.size + 1 := h; omega), fr_cell (stored2 w6 (w.heap.size + 1) _ _) p2 (fun h => by have h2 : w.heap.size = w.heap.size + 1 := h; omega), fr_cell (stored2 w6 (w.heap.size + 1) _ _) p3 (fun h => by have h2 : w.heap.size = w.heap.size + 1 := h; omega)⟩ | go_keep) ((first | (refine step_call (by rfl) 64 _ _ (by rfl) (ED.out) _ (by rfl) H5.out.2.2.2 ?_; rintro _ w6 ⟨v6, rfl, hw6, hb6⟩; obtain ⟨a6, c6, rfl, _, _⟩ := winC_slice hw6; refine ⟨_, rfl, ?_⟩; have hb6' := (Below.refl W5.heap.size W5).drew.trans hb6; have p0 := below_cell hb6' u0; have p1 := below_cell hb6' u1; have p2 := below_cell hb6' z0; have p3 := below_cell hb6' z1; have q0 := below_cell hb6' f0; have q1 := below_cell hb6' f1; have k2 := below_frozen hb6' (a := ⟨w.heap.size + 1, 0, none⟩) (by show w.heap.size + 1 < _; omega) k0; have k3 := below_frozen hb6' (a := ⟨w.heap.size + 1, 1, none⟩) (by show w.heap.size + 1 < _; omega) k1) | fail))
        all_goals
          have hB6 := H5.out.1.trans (hb6'.mono H5.out.1.size)
          have hr6 := (hb6'.block _ (by omega)).trans H5.out.2.1
          have hw6l : Win Step.cells 4 39 w6 (.slice a4 lw.length c4) (fun i => i ≠ w.heap.size + 1 ∧ w.heap.size ≤ i) lw := winC_move H5.out.2.2.1 (fr_of_below (S := fun _ => False) hb6') (fun _ _ h => h)
          have hE := line_end (k := k) hB6.size hB6 hr6 (by omega) hw6l (fun i hi => hi)
          have HE := Lib.hid (hE _ rfl)
          have hsp : Win Span.cells 2 58 ((w6.setCell ⟨w.heap.size + 1, 0, none⟩ (.int .i64 k)).setCell ⟨w.heap.size + 1, 1, none⟩ (.slice a4 lw.length c4)) (.slice a6 (diffOf k l lw).length c6) (fun i => w.heap.size ≤ i) (diffOf k l lw) := winC_mono (winC_move hw6 (stored2 w6 (w.heap.size + 1) _ _) (fun i hi h => by have h2 : i = w.heap.size + 1 := h; simp [drew_size] at hi; omega)) fun i hi => by have := H5.out.1.size; simp [drew_size] at hi; omega
          have HSP := Lib.hid hsp
          clear hE hB6 hr6 hw6l hsp p0 p1 p2 p3 q0 q1 k2 k3 hw6 hb6 hb6' u0 u1 z0 z1 f0 f1 k0 k1
          generalize (w6.setCell ⟨w.heap.size + 1, 0, none⟩ (.int .i64 k)).setCell ⟨w.heap.size + 1, 1, none⟩ (.slice a4 lw.length c4) = W7 at *
          have g0 := HE.out.1
          have g1 := HE.out.2.1
          go_wp2
          exact bodyPost_ret (v := .tuple #[.agg #[.int .i64 k, .slice a4 lw.length c4], .slice a6 (diffOf k l lw).length c6, .int .i64 0]) (by simp [results, Try.results25, go_sem, g0, g1]) rfl ⟨_, _, rfl, by (try rw [hwl]); exact HE.out.2.2.1, by (try rw [hwl]); exact HSP.out, HE.out.2.2.2⟩

end Go.Proofs.Ytkoeplbkeboklaa
/- retro.Insert. -/
set_option linter.unusedVariables false
set_option linter.unusedSimpArgs false
namespace Go.Proofs.Ytkoeplbkeboklaa
open Go.RowKit
theorem kA {w : World} {j : Nat} {o o' : Obj} (h : w.heap[j]? = some o) : (w.alloc o').heap[j]? = some o := (Below.heap_alloc _ _ _ (Array.getElem?_eq_some_iff.1 h).1).trans h
theorem kN2 {w : World} {o o' : Obj} : ((w.alloc o).alloc o').heap[w.heap.size + 1]? = some o' := by
  have := heap_alloc_new (w.alloc o) o'
  rwa [World.size_alloc] at this
theorem kB {w w' : World} {j : Nat} {o : Obj} (hb : Below w.heap.size w w') (h : w.heap[j]? = some o) : w'.heap[j]? = some o := (hb.block _ (Array.getElem?_eq_some_iff.1 h).1).trans h
theorem kK {w w' : World} {B : Nat} (hb : Below B w w') (hB : B = w.heap.size) : ∀ (j : Nat) (o : Obj), w.heap[j]? = some o → w'.heap[j]? = some o := fun j o h => kB (hB ▸ hb) h
theorem kF {w w' : World} {S : Nat → Prop} {j : Nat} {o : Obj} (hf : Fr S w w') (h : w.heap[j]? = some o) (hn : ¬ S j) : w'.heap[j]? = some o := (hf.block _ (Array.getElem?_eq_some_iff.1 h).1 hn).trans h
theorem insSteps_w (a : Option Addr) (c vb : Nat) (S : Nat → Prop) (l : List Step) (s : Step) (i : Nat) (w : World) (hw : Win Step.cells 4 39 w (.slice a l.length c) S l) (hi : i ≤ l.length)
    (hv : w.heap[vb]? = some (.cells #[.int .i64 s.at_, .int .i64 s.do_, .int .i64 s.key, .int .i64 s.val] 39 (0, 0))) (hne : ¬ some vb = (Value.slice a l.length c).ownBlock) (hl : l.length < 100000) :
    Calls Try.prog 62 #[.slice a l.length c, .int .i64 i, .slice (some ⟨vb, 0, none⟩) 1 1] w fun e w' => ∃ v, e = .returned v ∧ Win Step.cells 4 39 w' v (fun j => some j = (Value.slice a l.length c).ownBlock ∨ w.heap.size ≤ j) (l.take i ++ s :: l.drop i) ∧ Fr (fun j => some j = (Value.slice a l.length c).ownBlock) w w' := by
  have hw2 := winC_mono (winC_block hw) (T := fun j => some j = (Value.slice a l.length c).ownBlock) fun i hi => hi.1
  by_cases he : i = l.length
  · subst he
    rw [List.take_length, List.drop_length]
    exact insEnd_any a c vb _ l s w hw2 hv hl
  · obtain ⟨g, off, rfl⟩ : ∃ g off, a = some ⟨g, off, none⟩ := by
      rcases hw.2 with ⟨h1, h2⟩ | ⟨g, off, cap, cur, hv, _⟩
      · omega
      · injection hv with h1; exact ⟨g, off, h1⟩
    refine (insMid_any g off c vb l.length i _ l s w hw2 rfl hv (fun e => hne (by rw [e]; rfl)) (by omega) hl).mono ?_
    rintro e w' ⟨v, rfl, h1, h2⟩
    exact ⟨v, rfl, h1, fr_mono h2 fun j hj => by rw [hj]; rfl⟩
set_option maxHeartbeats 20000000 in
theorem rInsert_any (k : Int) (v : Value) (l : List Step) (s : Step) (w : World) (hr : Rd Step.cells 4 w v l) :
    Calls Try.prog 22 #[.agg #[.int .i64 k, v], .agg #[.int .i64 s.at_, .int .i64 s.do_, .int .i64 s.key, .int .i64 s.val]] w fun e w' =>
      ∃ v' vs, e = .returned (.tuple #[.agg #[.int .i64 (insertP k l s).1.1, v'], vs, .int .i64 (insertP k l s).2.2]) ∧ Win Step.cells 4 39 w' v' (fun i => w.heap.size ≤ i) (insertP k l s).1.2 ∧ Win Span.cells 2 58 w' vs (fun i => w.heap.size ≤ i) (insertP k l s).2.1 ∧ Below w.heap.size w w' := by
  obtain ⟨a, c, rfl⟩ : ∃ a c, v = .slice a l.length c := by obtain ⟨_, a, c, rfl, _⟩ := hr; exact ⟨a, c, rfl⟩
  have HR := Lib.hid hr
  have HC := Lib.hid (fun W h => isLine_any k _ l W (hr.below h))
  clear hr
  cases hl : isLineP k l with
  | false =>
    have hat : insertP k l s = ((0, []), [], 2) := by simp [insertP, hl]
    rw [hat]
    rw [hl] at HC
    clear hat hl
    go_enter Try.func22, Try.ntmps22
    go_wp2_with fail
    refine named_box3 (G := fun W => Calls _ _ _ W _) w _ _ _ _ _ _ fun W0 hb0 hz0 hx0 hx1 hx2 => ?_
    refine (HC.out _ hb0).mono ?_
    rintro e w1 ⟨rfl, hb1⟩
    have hB := hb0.trans (hb1.mono (by omega))
    have hr2 := (hb1.block _ (by omega)).trans hx2
    have f0 := cell_blk hr2 0
    have f1 := cell_blk hr2 1
    have k0 := free_blk hr2 0
    have k1 := free_blk hr2 1
    have hE := line_end (k := 0) hB.size hB hr2 (by omega) (win_nil Step.cells 4 39 w1 (fun i => i ≠ w.heap.size + 1 + 1 ∧ w.heap.size ≤ i)) (fun i hi => hi)
    have HE := Lib.hid (hE _ rfl)
    clear hE hB hr2
    go_wp2
    have g0 := HE.out.1
    have g1 := HE.out.2.1
    exact bodyPost_ret (v := .tuple #[.agg #[.int .i64 0, .slice none 0 0], .slice none 0 0, .int .i64 2]) (by simp [results, Try.results22, go_sem, g0, g1]) rfl ⟨_, _, rfl, winC_nil _ _ _ _, winC_nil _ _ _ _, HE.out.2.2.2⟩

  | true =>
    rw [hl] at HC
    have hlen := line_len hl
    have HL := Lib.hid hl
    have HS := Lib.hid (fun W => isStep_any k s W)
    have HH := Lib.hid (fun W h => rplace_any k _ l s.at_ W (HR.out.below h) (isLineP_spec hl).2.2.2.2 (by omega))
    clear hl
    cases hs : isStepP k s with
    | false =>
      have hat : insertP k l s = ((0, []), [], 2) := by simp [insertP, hs]
      rw [hat]
      rw [hs] at HS
      clear hat hs
      go_enter Try.func22, Try.ntmps22
      go_wp2_with fail
      refine named_box3 (G := fun W => Calls _ _ _ W _) w _ _ _ _ _ _ fun W0 hb0 hz0 hx0 hx1 hx2 => ?_
      refine (HC.out _ hb0).mono ?_
      rintro e w1 ⟨rfl, hb1⟩
      have hB1 := hb0.trans (hb1.mono (by omega))
      have hz1 := hb1.size
      have d0 : w1.cell? ⟨w.heap.size, 0, none⟩ = some (.int .i64 k) := below_cell hb1 (cell_blk hx0 0)
      have d1 : w1.cell? ⟨w.heap.size, 1, none⟩ = some (.slice a l.length c) := below_cell hb1 (cell_blk hx0 1)
      have e0 : w1.cell? ⟨w.heap.size + 1, 0, none⟩ = some (.int .i64 s.at_) := below_cell hb1 (cell_blk hx1 0)
      have e1 : w1.cell? ⟨w.heap.size + 1, 1, none⟩ = some (.int .i64 s.do_) := below_cell hb1 (cell_blk hx1 1)
      have e2 : w1.cell? ⟨w.heap.size + 1, 2, none⟩ = some (.int .i64 s.key) := below_cell hb1 (cell_blk hx1 2)
      have e3 : w1.cell? ⟨w.heap.size + 1, 3, none⟩ = some (.int .i64 s.val) := below_cell hb1 (cell_blk hx1 3)
      have HB1 := Lib.hid (And.intro hB1 (And.intro ((hb1.block _ (by omega)).trans hx2) hz1))
      clear hB1 hx0 hx1 hx2 hb0 hb1

      go_wp2_with fail
      refine (HS.out _).mono ?_
      rintro e w2 ⟨rfl, hb2⟩
      have hB := HB1.out.1.trans (hb2.mono HB1.out.1.size)
      have hr2 := (hb2.block _ (by omega)).trans HB1.out.2.1
      have f0 := cell_blk hr2 0
      have f1 := cell_blk hr2 1
      have k0 := free_blk hr2 0
      have k1 := free_blk hr2 1
      have hE := line_end (k := 0) hB.size hB hr2 (by omega) (win_nil Step.cells 4 39 w2 (fun i => i ≠ w.heap.size + 1 + 1 ∧ w.heap.size ≤ i)) (fun i hi => hi)
      have HE := Lib.hid (hE _ rfl)
      clear hE hB hr2
      go_wp2
      have g0 := HE.out.1
      have g1 := HE.out.2.1
      exact bodyPost_ret (v := .tuple #[.agg #[.int .i64 0, .slice none 0 0], .slice none 0 0, .int .i64 2]) (by simp [results, Try.results22, go_sem, g0, g1]) rfl ⟨_, _, rfl, winC_nil _ _ _ _, winC_nil _ _ _ _, HE.out.2.2.2⟩

    | true =>
      rw [hs] at HS
      have HSS := Lib.hid hs
      clear hs
      cases hh : hasP l s.at_ with
      | true =>
        have hat : insertP k l s = ((0, []), [], 7) := by simp [insertP, HL.out, HSS.out, hh]
        rw [hat]
        rw [hh] at HH
        clear hat hh
        go_enter Try.func22, Try.ntmps22
        go_wp2_with fail
        refine named_box3 (G := fun W => Calls _ _ _ W _) w _ _ _ _ _ _ fun W0 hb0 hz0 hx0 hx1 hx2 => ?_
        refine (HC.out _ hb0).mono ?_
        rintro e w1 ⟨rfl, hb1⟩
        have hB1 := hb0.trans (hb1.mono (by omega))
        have hz1 := hb1.size
        have d0 : w1.cell? ⟨w.heap.size, 0, none⟩ = some (.int .i64 k) := below_cell hb1 (cell_blk hx0 0)
        have d1 : w1.cell? ⟨w.heap.size, 1, none⟩ = some (.slice a l.length c) := below_cell hb1 (cell_blk hx0 1)
        have e0 : w1.cell? ⟨w.heap.size + 1, 0, none⟩ = some (.int .i64 s.at_) := below_cell hb1 (cell_blk hx1 0)
        have e1 : w1.cell? ⟨w.heap.size + 1, 1, none⟩ = some (.int .i64 s.do_) := below_cell hb1 (cell_blk hx1 1)
        have e2 : w1.cell? ⟨w.heap.size + 1, 2, none⟩ = some (.int .i64 s.key) := below_cell hb1 (cell_blk hx1 2)
        have e3 : w1.cell? ⟨w.heap.size + 1, 3, none⟩ = some (.int .i64 s.val) := below_cell hb1 (cell_blk hx1 3)
        have HB1 := Lib.hid (And.intro hB1 (And.intro ((hb1.block _ (by omega)).trans hx2) hz1))
        clear hB1 hx0 hx1 hx2 hb0 hb1

        go_wp2_with fail
        refine (HS.out _).mono ?_
        rintro e w2 ⟨rfl, hb2⟩
        have hB2 := HB1.out.1.trans (hb2.mono HB1.out.1.size)
        have p0 := below_cell hb2 d0
        have p1 := below_cell hb2 d1
        have p2 := below_cell hb2 e0
        have p3 := below_cell hb2 e1
        have p4 := below_cell hb2 e2
        have p5 := below_cell hb2 e3
        have hz2 := hb2.size
        have HB2 := Lib.hid (And.intro hB2 ((hb2.block _ (by omega)).trans HB1.out.2.1))
        clear hb2 hB2 d0 d1 e0 e1 e2 e3
        go_wp2_with fail
        refine (HH.out _ HB2.out.1).mono ?_
        rintro e w3 ⟨rfl, hb3⟩
        have hB3 := HB2.out.1.trans (hb3.mono HB2.out.1.size)
        have d0 := below_cell hb3 p0
        have d1 := below_cell hb3 p1
        have e0 := below_cell hb3 p2
        have e1 := below_cell hb3 p3
        have e2 := below_cell hb3 p4
        have e3 := below_cell hb3 p5
        have hz3 := hb3.size
        have HB3 := Lib.hid (And.intro hB3 (And.intro ((hb3.block _ (by omega)).trans HB2.out.2) trivial))
        clear hb3 hB3 p0 p1 p2 p3 p4 p5

        have hB := HB3.out.1
        have hr2 := HB3.out.2.1
        have f0 := cell_blk hr2 0
        have f1 := cell_blk hr2 1
        have k0 := free_blk hr2 0
        have k1 := free_blk hr2 1
        have hE := line_end (k := 0) hB.size hB hr2 (by omega) (win_nil Step.cells 4 39 w3 (fun i => i ≠ w.heap.size + 1 + 1 ∧ w.heap.size ≤ i)) (fun i hi => hi)
        have HE := Lib.hid (hE _ rfl)
        clear hE hB hr2
        go_wp2
        have g0 := HE.out.1
        have g1 := HE.out.2.1
        exact bodyPost_ret (v := .tuple #[.agg #[.int .i64 0, .slice none 0 0], .slice none 0 0, .int .i64 7]) (by simp [results, Try.results22, go_sem, g0, g1]) rfl ⟨_, _, rfl, winC_nil _ _ _ _, winC_nil _ _ _ _, HE.out.2.2.2⟩

      | false =>
        rw [hh] at HH
        by_cases h60 : l.length = 60
        · have hat : insertP k l s = ((0, []), [], 3) := by simp [insertP, HL.out, HSS.out, hh, h60]
          rw [hat]
          have h60c : (l.length : Int) = 60 := by omega
          have h60d : ((l.length : Int) == 60) = true := by simp; omega
          have H60 := Lib.hid (And.intro h60c h60)
          clear hat hh h60 h60c
          go_enter Try.func22, Try.ntmps22
          go_wp2_with fail
          refine named_box3 (G := fun W => Calls _ _ _ W _) w _ _ _ _ _ _ fun W0 hb0 hz0 hx0 hx1 hx2 => ?_
          refine (HC.out _ hb0).mono ?_
          rintro e w1 ⟨rfl, hb1⟩
          have hB1 := hb0.trans (hb1.mono (by omega))
          have hz1 := hb1.size
          have d0 : w1.cell? ⟨w.heap.size, 0, none⟩ = some (.int .i64 k) := below_cell hb1 (cell_blk hx0 0)
          have d1 : w1.cell? ⟨w.heap.size, 1, none⟩ = some (.slice a l.length c) := below_cell hb1 (cell_blk hx0 1)
          have e0 : w1.cell? ⟨w.heap.size + 1, 0, none⟩ = some (.int .i64 s.at_) := below_cell hb1 (cell_blk hx1 0)
          have e1 : w1.cell? ⟨w.heap.size + 1, 1, none⟩ = some (.int .i64 s.do_) := below_cell hb1 (cell_blk hx1 1)
          have e2 : w1.cell? ⟨w.heap.size + 1, 2, none⟩ = some (.int .i64 s.key) := below_cell hb1 (cell_blk hx1 2)
          have e3 : w1.cell? ⟨w.heap.size + 1, 3, none⟩ = some (.int .i64 s.val) := below_cell hb1 (cell_blk hx1 3)
          have HB1 := Lib.hid (And.intro hB1 (And.intro ((hb1.block _ (by omega)).trans hx2) hz1))
          clear hB1 hx0 hx1 hx2 hb0 hb1

          go_wp2_with fail
          refine (HS.out _).mono ?_
          rintro e w2 ⟨rfl, hb2⟩
          have hB2 := HB1.out.1.trans (hb2.mono HB1.out.1.size)
          have p0 := below_cell hb2 d0
          have p1 := below_cell hb2 d1
          have p2 := below_cell hb2 e0
          have p3 := below_cell hb2 e1
          have p4 := below_cell hb2 e2
          have p5 := below_cell hb2 e3
          have hz2 := hb2.size
          have HB2 := Lib.hid (And.intro hB2 ((hb2.block _ (by omega)).trans HB1.out.2.1))
          clear hb2 hB2 d0 d1 e0 e1 e2 e3
          go_wp2_with fail
          refine (HH.out _ HB2.out.1).mono ?_
          rintro e w3 ⟨rfl, hb3⟩
          have hB3 := HB2.out.1.trans (hb3.mono HB2.out.1.size)
          have d0 := below_cell hb3 p0
          have d1 := below_cell hb3 p1
          have e0 := below_cell hb3 p2
          have e1 := below_cell hb3 p3
          have e2 := below_cell hb3 p4
          have e3 := below_cell hb3 p5
          have hz3 := hb3.size
          have HB3 := Lib.hid (And.intro hB3 (And.intro ((hb3.block _ (by omega)).trans HB2.out.2) trivial))
          clear hb3 hB3 p0 p1 p2 p3 p4 p5

          have hB := HB3.out.1
          have hr2 := HB3.out.2.1
          have f0 := cell_blk hr2 0
          have f1 := cell_blk hr2 1
          have k0 := free_blk hr2 0
          have k1 := free_blk hr2 1
          have hE := line_end (k := 0) hB.size hB hr2 (by omega) (win_nil Step.cells 4 39 w3 (fun i => i ≠ w.heap.size + 1 + 1 ∧ w.heap.size ≤ i)) (fun i hi => hi)
          have HE := Lib.hid (hE _ rfl)
          clear hE hB hr2
          go_wp2
          have g0 := HE.out.1
          have g1 := HE.out.2.1
          exact bodyPost_ret (v := .tuple #[.agg #[.int .i64 0, .slice none 0 0], .slice none 0 0, .int .i64 3]) (by simp [results, Try.results22, go_sem, g0, g1]) rfl ⟨_, _, rfl, winC_nil _ _ _ _, winC_nil _ _ _ _, HE.out.2.2.2⟩

        · have hat : insertP k l s = ((k, withP l s), diffOf k l (withP l s), 0) := by simp [insertP, HL.out, HSS.out, hh, h60]
          rw [hat]
          have hlw := isLineP_with HL.out HSS.out hh (by omega)
          have HW := Lib.hid (And.intro hlw (with_length l s))
          have HIN := Lib.hid (fun a c S W vb h hv hne => insSteps_w a c vb S l s (placeAt s.at_ l) W h (placeAt_le s.at_ l) hv hne (by omega))
          have hql := placeAt_le s.at_ l
          have hww : l.take (placeAt s.at_ l) ++ s :: l.drop (placeAt s.at_ l) = withP l s := rfl
          rw [hww] at HIN
          clear hat hh hlw hww
          generalize hwl : withP l s = lw at *
          have hll : lw.length ≤ 61 := by have := HW.out.2; omega
          generalize placeAt s.at_ l = q at *
          have EF := Lib.hid (enters_of Try.func63 (by kernel_rfl) rfl)
          have EX := Lib.hid (enters_of Try.func62 (by kernel_rfl) rfl)
          have h60c : ¬ ((l.length : Int) = 60) := by omega
          have h60d : ((l.length : Int) == 60) = false := by simp; omega
          go_enter Try.func22, Try.ntmps22
          go_wp2_with fail
          refine named_box3 (G := fun W => Calls _ _ _ W _) w _ _ _ _ _ _ fun W0 hb0 hz0 hx0 hx1 hx2 => ?_
          refine (HC.out _ hb0).mono ?_
          rintro e w1 ⟨rfl, hb1⟩
          have hB1 := hb0.trans (hb1.mono (by omega))
          have hz1 := hb1.size
          have d0 : w1.cell? ⟨w.heap.size, 0, none⟩ = some (.int .i64 k) := below_cell hb1 (cell_blk hx0 0)
          have d1 : w1.cell? ⟨w.heap.size, 1, none⟩ = some (.slice a l.length c) := below_cell hb1 (cell_blk hx0 1)
          have e0 : w1.cell? ⟨w.heap.size + 1, 0, none⟩ = some (.int .i64 s.at_) := below_cell hb1 (cell_blk hx1 0)
          have e1 : w1.cell? ⟨w.heap.size + 1, 1, none⟩ = some (.int .i64 s.do_) := below_cell hb1 (cell_blk hx1 1)
          have e2 : w1.cell? ⟨w.heap.size + 1, 2, none⟩ = some (.int .i64 s.key) := below_cell hb1 (cell_blk hx1 2)
          have e3 : w1.cell? ⟨w.heap.size + 1, 3, none⟩ = some (.int .i64 s.val) := below_cell hb1 (cell_blk hx1 3)
          have HB1 := Lib.hid (And.intro hB1 (And.intro ((hb1.block _ (by omega)).trans hx2) hz1))
          clear hB1 hx0 hx1 hx2 hb0 hb1

          go_wp2_with fail
          refine (HS.out _).mono ?_
          rintro e w2 ⟨rfl, hb2⟩
          have hB2 := HB1.out.1.trans (hb2.mono HB1.out.1.size)
          have p0 := below_cell hb2 d0
          have p1 := below_cell hb2 d1
          have p2 := below_cell hb2 e0
          have p3 := below_cell hb2 e1
          have p4 := below_cell hb2 e2
          have p5 := below_cell hb2 e3
          have hz2 := hb2.size
          have HB2 := Lib.hid (And.intro hB2 ((hb2.block _ (by omega)).trans HB1.out.2.1))
          clear hb2 hB2 d0 d1 e0 e1 e2 e3
          go_wp2_with fail
          refine (HH.out _ HB2.out.1).mono ?_
          rintro e w3 ⟨rfl, hb3⟩
          have hB3 := HB2.out.1.trans (hb3.mono HB2.out.1.size)
          have d0 := below_cell hb3 p0
          have d1 := below_cell hb3 p1
          have e0 := below_cell hb3 p2
          have e1 := below_cell hb3 p3
          have e2 := below_cell hb3 p4
          have e3 := below_cell hb3 p5
          have hz3 := hb3.size
          have HB3 := Lib.hid (And.intro hB3 (And.intro ((hb3.block _ (by omega)).trans HB2.out.2) trivial))
          clear hb3 hB3 p0 p1 p2 p3 p4 p5

          have hzz : w.heap.size + 1 + 1 < w3.heap.size := by omega
          go_wp2
          set_option maxRecDepth 10000 in
          go_region_held3 (fun W => W.cell? ⟨w.heap.size, 0, none⟩ = some (.int .i64 k) ∧ W.cell? ⟨w.heap.size, 1, none⟩ = some (.slice a l.length c) ∧ W.cell? ⟨w.heap.size + 1, 0, none⟩ = some (.int .i64 s.at_) ∧ W.cell? ⟨w.heap.size + 1, 1, none⟩ = some (.int .i64 s.do_) ∧ W.cell? ⟨w.heap.size + 1, 2, none⟩ = some (.int .i64 s.key) ∧ W.cell? ⟨w.heap.size + 1, 3, none⟩ = some (.int .i64 s.val)) (first | exact ⟨d0, d1, e0, e1, e2, e3⟩ | exact ⟨p0, p1, p2, p3, p4, p5⟩ | exact ⟨r0, r1, r2, r3, r4, r5⟩ | exact ⟨fr_cell (stored2 w4 (w5.heap.size + 1) _ _) r0 (fun h => by have h2 : w.heap.size = w5.heap.size + 1 := h; omega), fr_cell (stored2 w4 (w5.heap.size + 1) _ _) r1 (fun h => by have h2 : w.heap.size = w5.heap.size + 1 := h; omega), fr_cell (stored2 w4 (w5.heap.size + 1) _ _) r2 (fun h => by have h2 : w.heap.size + 1 = w5.heap.size + 1 := h; omega), fr_cell (stored2 w4 (w5.heap.size + 1) _ _) r3 (fun h => by have h2 : w.heap.size + 1 = w5.heap.size + 1 := h; omega), fr_cell (stored2 w4 (w5.heap.size + 1) _ _) r4 (fun h => by have h2 : w.heap.size + 1 = w5.heap.size + 1 := h; omega), fr_cell (stored2 w4 (w5.heap.size + 1) _ _) r5 (fun h => by have h2 : w.heap.size + 1 = w5.heap.size + 1 := h; omega)⟩ | exact ⟨fr_cell (stored2 w4 (w5.heap.size) _ _) r0 (fun h => by have h2 : w.heap.size = w5.heap.size := h; omega), fr_cell (stored2 w4 (w5.heap.size) _ _) r1 (fun h => by have h2 : w.heap.size = w5.heap.size := h; omega), fr_cell (stored2 w4 (w5.heap.size) _ _) r2 (fun h => by have h2 : w.heap.size + 1 = w5.heap.size := h; omega), fr_cell (stored2 w4 (w5.heap.size) _ _) r3 (fun h => by have h2 : w.heap.size + 1 = w5.heap.size := h; omega), fr_cell (stored2 w4 (w5.heap.size) _ _) r4 (fun h => by have h2 : w.heap.size + 1 = w5.heap.size := h; omega), fr_cell (stored2 w4 (w5.heap.size) _ _) r5 (fun h => by have h2 : w.heap.size + 1 = w5.heap.size := h; omega)⟩ | exact ⟨fr_cell (stored2 w4 (w3.heap.size) _ _) r0 (fun h => by have h2 : w.heap.size = w3.heap.size := h; omega), fr_cell (stored2 w4 (w3.heap.size) _ _) r1 (fun h => by have h2 : w.heap.size = w3.heap.size := h; omega), fr_cell (stored2 w4 (w3.heap.size) _ _) r2 (fun h => by have h2 : w.heap.size + 1 = w3.heap.size := h; omega), fr_cell (stored2 w4 (w3.heap.size) _ _) r3 (fun h => by have h2 : w.heap.size + 1 = w3.heap.size := h; omega), fr_cell (stored2 w4 (w3.heap.size) _ _) r4 (fun h => by have h2 : w.heap.size + 1 = w3.heap.size := h; omega), fr_cell (stored2 w4 (w3.heap.size) _ _) r5 (fun h => by have h2 : w.heap.size + 1 = w3.heap.size := h; omega)⟩ | exact ⟨fr_cell (stored2 w4 (w3.heap.size + 1) _ _) r0 (fun h => by have h2 : w.heap.size = w3.heap.size + 1 := h; omega), fr_cell (stored2 w4 (w3.heap.size + 1) _ _) r1 (fun h => by have h2 : w.heap.size = w3.heap.size + 1 := h; omega), fr_cell (stored2 w4 (w3.heap.size + 1) _ _) r2 (fun h => by have h2 : w.heap.size + 1 = w3.heap.size + 1 := h; omega), fr_cell (stored2 w4 (w3.heap.size + 1) _ _) r3 (fun h => by have h2 : w.heap.size + 1 = w3.heap.size + 1 := h; omega), fr_cell (stored2 w4 (w3.heap.size + 1) _ _) r4 (fun h => by have h2 : w.heap.size + 1 = w3.heap.size + 1 := h; omega), fr_cell (stored2 w4 (w3.heap.size + 1) _ _) r5 (fun h => by have h2 : w.heap.size + 1 = w3.heap.size + 1 := h; omega)⟩ | go_keep) ((first | (refine step_call (by rfl) 62 _ _ (by rfl) (EX.out) _ (by rfl) (HIN.out _ _ _ _ _ (by first | with_reducible exact hw5 | exact winC_move hw5 (fr_alloc (fun _ => False) w5 _) (fun _ _ h => h) | exact winC_move (winC_move hw5 (fr_alloc (fun _ => False) w5 _) (fun _ _ h => h)) (fr_alloc (fun _ => False) (w5.alloc _) _) (fun _ _ h => h)) (by first | with_reducible exact heap_alloc_new _ _ | with_reducible exact kA (heap_alloc_new _ _) | with_reducible exact kN2 | (refine hkeep _ _ ?_; first | with_reducible exact heap_alloc_new _ _ | with_reducible exact kA (heap_alloc_new _ _) | with_reducible exact kN2) | (refine kA (hkeep _ _ ?_); first | with_reducible exact heap_alloc_new _ _ | with_reducible exact kA (heap_alloc_new _ _) | with_reducible exact kN2)) (fun h => by have := hob _ h; first | omega | (simp at this; done) | (simp at this; omega))) ?_; rintro _ w4 ⟨v4, rfl, hw4, hf4⟩; obtain ⟨a4, c4, rfl, _, _⟩ := winC_slice hw4; refine ⟨_, rfl, ?_⟩; have hoz : ∀ i, some i = (Value.slice af l.length cf).ownBlock → w3.heap.size ≤ i ∧ i < w5.heap.size := fun i hi => (by have := hob i hi; omega); have hb34 : Below w3.heap.size w3 w4 := (by first | exact hb35.trans (below_of_fr hf4 hb35.size fun i hi => (hoz i hi).1) | exact (hb35.alloc hb35.size _).trans (below_of_fr hf4 (by simp; omega) fun i hi => (hoz i hi).1) | exact ((hb35.alloc hb35.size _).alloc (by simp; omega) _).trans (below_of_fr hf4 (by simp; omega) fun i hi => (hoz i hi).1)); have hs4 := hf4.size; (try simp only [World.size_alloc] at hs4); have r0 := below_cell hb34 d0; have r1 := below_cell hb34 d1; have r2 := below_cell hb34 e0; have r3 := below_cell hb34 e1; have r4 := below_cell hb34 e2; have r5 := below_cell hb34 e3) | (refine step_call (by rfl) 63 _ _ (by rfl) (EF.out) _ (by rfl) (fresh_any _ l _ (HR.out.below (by first | exact HB3.out.1.drew | exact (HB3.out.1.alloc HB3.out.1.size _).drew | exact ((HB3.out.1.alloc HB3.out.1.size _).alloc (Nat.le_trans HB3.out.1.size (by simp)) _).drew)) (by omega)) ?_; rintro _ w5 ⟨v5, rfl, hw5, hb5⟩; obtain ⟨af, cf, rfl, _, _⟩ := winC_slice hw5; refine ⟨_, rfl, ?_⟩; have hbw := (Below.refl _ _).drew.trans hb5; have hb35 : Below w3.heap.size w3 w5 := (by first | exact hbw | exact ((Below.refl _ _).alloc (Nat.le_refl _) _).trans (hbw.mono (by simp)) | exact (((Below.refl _ _).alloc (Nat.le_refl _) _).alloc (by simp) _).trans (hbw.mono (by simp; omega))); have hob := winC_ob hw5; have hs5 := hb35.size; have hsx := hbw.size; have p0 := below_cell hb35 d0; have p1 := below_cell hb35 d1; have p2 := below_cell hb35 e0; have p3 := below_cell hb35 e1; have p4 := below_cell hb35 e2; have p5 := below_cell hb35 e3; simp only [drew_size, World.size_alloc] at hsx hob; have hkeep := kK hbw rfl; clear hbw hb5) | (have yr : w4.heap[w5.heap.size]? = some (.cells #[.int .i64 0, .slice none 0 0] 25) := kF hf4 (by first | with_reducible exact heap_alloc_new _ _ | with_reducible exact kA (heap_alloc_new _ _) | with_reducible exact kN2 | (refine hkeep _ _ ?_; first | with_reducible exact heap_alloc_new _ _ | with_reducible exact kA (heap_alloc_new _ _) | with_reducible exact kN2) | (refine kA (hkeep _ _ ?_); first | with_reducible exact heap_alloc_new _ _ | with_reducible exact kA (heap_alloc_new _ _) | with_reducible exact kN2)) (fun h => by have := hob _ h; omega); have y0 := cell_blk yr 0; have y1 := cell_blk yr 1; have k0 := free_blk yr 0; have k1 := free_blk yr 1; clear hoz; go_simp) | (have yr : w4.heap[w5.heap.size + 1]? = some (.cells #[.int .i64 0, .slice none 0 0] 25) := kF hf4 (by first | with_reducible exact heap_alloc_new _ _ | with_reducible exact kA (heap_alloc_new _ _) | with_reducible exact kN2 | (refine hkeep _ _ ?_; first | with_reducible exact heap_alloc_new _ _ | with_reducible exact kA (heap_alloc_new _ _) | with_reducible exact kN2) | (refine kA (hkeep _ _ ?_); first | with_reducible exact heap_alloc_new _ _ | with_reducible exact kA (heap_alloc_new _ _) | with_reducible exact kN2)) (fun h => by have := hob _ h; omega); have y0 := cell_blk yr 0; have y1 := cell_blk yr 1; have k0 := free_blk yr 0; have k1 := free_blk yr 1; clear hoz; go_simp) | (have yr : w4.heap[w3.heap.size]? = some (.cells #[.int .i64 0, .slice none 0 0] 25) := kF hf4 (by first | with_reducible exact heap_alloc_new _ _ | with_reducible exact kA (heap_alloc_new _ _) | with_reducible exact kN2 | (refine hkeep _ _ ?_; first | with_reducible exact heap_alloc_new _ _ | with_reducible exact kA (heap_alloc_new _ _) | with_reducible exact kN2) | (refine kA (hkeep _ _ ?_); first | with_reducible exact heap_alloc_new _ _ | with_reducible exact kA (heap_alloc_new _ _) | with_reducible exact kN2)) (fun h => by have := hob _ h; omega); have y0 := cell_blk yr 0; have y1 := cell_blk yr 1; have k0 := free_blk yr 0; have k1 := free_blk yr 1; clear hoz; go_simp) | (have yr : w4.heap[w3.heap.size + 1]? = some (.cells #[.int .i64 0, .slice none 0 0] 25) := kF hf4 (by first | with_reducible exact heap_alloc_new _ _ | with_reducible exact kA (heap_alloc_new _ _) | with_reducible exact kN2 | (refine hkeep _ _ ?_; first | with_reducible exact heap_alloc_new _ _ | with_reducible exact kA (heap_alloc_new _ _) | with_reducible exact kN2) | (refine kA (hkeep _ _ ?_); first | with_reducible exact heap_alloc_new _ _ | with_reducible exact kA (heap_alloc_new _ _) | with_reducible exact kN2)) (fun h => by have := hob _ h; omega); have y0 := cell_blk yr 0; have y1 := cell_blk yr 1; have k0 := free_blk yr 0; have k1 := free_blk yr 1; clear hoz; go_simp) | fail))
          · refine named_box w4 _ _ fun W5 hbx hzx hx5 => ?_
            have u0 : W5.cell? ⟨w4.heap.size, 0, none⟩ = some (.int .i64 k) := hx5 0
            have u1 : W5.cell? ⟨w4.heap.size, 1, none⟩ = some (.slice a4 lw.length c4) := hx5 1
            have hF5 : Fr (fun i => i = w4.heap.size) w4 W5 := fr_of_below hbx
            clear hx5 hbx
            clear r2 r3 r4 r5 e0 e1 e2 e3 p2 p3 p4 p5 hkeep
            have hw4' : Win Step.cells 4 39 w4 (.slice a4 lw.length c4) (fun i => w3.heap.size ≤ i ∧ i < w4.heap.size ∧ ¬ i = w4.heap.size) lw := winC_mono (winC_block hw4) fun i hi => by
              have h2 := hi.2.2
              rcases hi.2.1 with h | h
              · have := hob i h; omega
              · (try simp only [World.size_alloc] at h); omega
            have hBz := HB3.out.1.size
            have hB4 : Below w.heap.size w w4 := HB3.out.1.trans (hb34.mono hBz)
            have hs34 := hb34.size
            have hB6' : Below w.heap.size w W5 := hB4.trans (below_of_fr hF5 hB4.size fun i hi => by have h2 : i = w4.heap.size := hi; omega)
            have hr5 := (hF5.block (w.heap.size + 1 + 1) (by omega) (fun h => by have h2 : w.heap.size + 1 + 1 = w4.heap.size := h; omega)).trans ((hb34.block (w.heap.size + 1 + 1) (by omega)).trans HB3.out.2.1)
            have z0 := fr_cell hF5 r0 (fun h => by have h2 : w.heap.size = w4.heap.size := h; omega)
            have z1 := fr_cell hF5 r1 (fun h => by have h2 : w.heap.size = w4.heap.size := h; omega)
            have f0 := cell_blk hr5 0
            have f1 := cell_blk hr5 1
            have k0 := free_blk hr5 0
            have k1 := free_blk hr5 1
            have hw5' : Win Step.cells 4 39 W5 (.slice a4 lw.length c4) (fun i => i ≠ w.heap.size + 1 + 1 ∧ w.heap.size ≤ i) lw := winC_mono (winC_move hw4' hF5 (fun i hi h => hi.2.2 h)) fun i hi => ⟨by omega, by omega⟩
            have hDC := spans_any k _ _ l lw W5.drew ((HR.out.below hB6').below (Below.refl _ _).drew) ((win_rd step_len hw5').below (Below.refl _ _).drew) (by omega) (by omega) (lines_time HL.out HW.out.1)
            have H5 := Lib.hid (And.intro hB6' (And.intro hr5 (And.intro hw5' hDC)))
            clear hb34 hB6' hr5 hw4 hw4' hw5' hDC d0 d1 p0 p1 r0 r1 hF5 hB4 hw5 hb35 hf4 hob
            try clear hoz
            try clear hsx
            have hX : w.heap.size + 1 + 1 < w4.heap.size := by omega
            generalize w4.heap.size = X at *
            go_wp2

            have ED := Lib.hid (enters_of Try.func64 (by kernel_rfl) rfl)
            set_option maxRecDepth 10000 in
            go_region_held3 (fun W => W.cell? ⟨X, 0, none⟩ = some (.int .i64 k) ∧ W.cell? ⟨X, 1, none⟩ = some (.slice a4 lw.length c4) ∧ W.cell? ⟨w.heap.size, 0, none⟩ = some (.int .i64 k) ∧ W.cell? ⟨w.heap.size, 1, none⟩ = some (.slice a l.length c)) (first | exact ⟨u0, u1, z0, z1⟩ | exact ⟨p0, p1, p2, p3⟩ | exact ⟨fr_cell (stored2 w6 (w.heap.size + 1 + 1) _ _) p0 (fun h => by have h2 : X = w.heap.size + 1 + 1 := h; omega), fr_cell (stored2 w6 (w.heap.size + 1 + 1) _ _) p1 (fun h => by have h2 : X = w.heap.size + 1 + 1 := h; omega), fr_cell (stored2 w6 (w.heap.size + 1 + 1) _ _) p2 (fun h => by have h2 : w.heap.size = w.heap.size + 1 + 1 := h; omega), fr_cell (stored2 w6 (w.heap.size + 1 + 1) _ _) p3 (fun h => by have h2 : w.heap.size = w.heap.size + 1 + 1 := h; omega)⟩ | go_keep) ((first | (refine step_call (by rfl) 64 _ _ (by rfl) (ED.out) _ (by rfl) H5.out.2.2.2 ?_; rintro _ w6 ⟨v6, rfl, hw6, hb6⟩; obtain ⟨a6, c6, rfl, _, _⟩ := winC_slice hw6; refine ⟨_, rfl, ?_⟩; have hb6' := (Below.refl W5.heap.size W5).drew.trans hb6; have p0 := below_cell hb6' u0; have p1 := below_cell hb6' u1; have p2 := below_cell hb6' z0; have p3 := below_cell hb6' z1; have q0 := below_cell hb6' f0; have q1 := below_cell hb6' f1; have k2 := below_frozen hb6' (a := ⟨w.heap.size + 1 + 1, 0, none⟩) (by show w.heap.size + 1 + 1 < _; omega) k0; have k3 := below_frozen hb6' (a := ⟨w.heap.size + 1 + 1, 1, none⟩) (by show w.heap.size + 1 + 1 < _; omega) k1) | fail))
            all_goals
              have hB6 := H5.out.1.trans (hb6'.mono H5.out.1.size)
              have hr6 := (hb6'.block _ (by omega)).trans H5.out.2.1
              have hw6l : Win Step.cells 4 39 w6 (.slice a4 lw.length c4) (fun i => i ≠ w.heap.size + 1 + 1 ∧ w.heap.size ≤ i) lw := winC_move H5.out.2.2.1 (fr_of_below (S := fun _ => False) hb6') (fun _ _ h => h)
              have hE := line_end (k := k) hB6.size hB6 hr6 (by omega) hw6l (fun i hi => hi)
              have HE := Lib.hid (hE _ rfl)
              have hsp : Win Span.cells 2 58 ((w6.setCell ⟨w.heap.size + 1 + 1, 0, none⟩ (.int .i64 k)).setCell ⟨w.heap.size + 1 + 1, 1, none⟩ (.slice a4 lw.length c4)) (.slice a6 (diffOf k l lw).length c6) (fun i => w.heap.size ≤ i) (diffOf k l lw) := winC_mono (winC_move hw6 (stored2 w6 (w.heap.size + 1 + 1) _ _) (fun i hi h => by have h2 : i = w.heap.size + 1 + 1 := h; simp [drew_size] at hi; omega)) fun i hi => by have := H5.out.1.size; simp [drew_size] at hi; omega
              have HSP := Lib.hid hsp
              clear hE hB6 hr6 hw6l hsp p0 p1 p2 p3 q0 q1 k2 k3 hw6 hb6 hb6' u0 u1 z0 z1 f0 f1 k0 k1
              generalize (w6.setCell ⟨w.heap.size + 1 + 1, 0, none⟩ (.int .i64 k)).setCell ⟨w.heap.size + 1 + 1, 1, none⟩ (.slice a4 lw.length c4) = W7 at *
              have g0 := HE.out.1
              have g1 := HE.out.2.1
              go_wp2
              exact bodyPost_ret (v := .tuple #[.agg #[.int .i64 k, .slice a4 lw.length c4], .slice a6 (diffOf k l lw).length c6, .int .i64 0]) (by simp [results, Try.results22, go_sem, g0, g1]) rfl ⟨_, _, rfl, by (try rw [hwl]); exact HE.out.2.2.1, by (try rw [hwl]); exact HSP.out, HE.out.2.2.2⟩

          · have hxw := (Array.getElem?_eq_some_iff.1 yr).1
            refine named_store2 yr _ _ fun W5 hF5 u0 u1 hz5 => ?_
            clear yr y0 y1 k0 k1
            clear r2 r3 r4 r5 e0 e1 e2 e3 p2 p3 p4 p5 hkeep
            have hw4' : Win Step.cells 4 39 w4 (.slice a4 lw.length c4) (fun i => w3.heap.size ≤ i ∧ i < w4.heap.size ∧ ¬ i = w5.heap.size + 1) lw := winC_mono (winC_block hw4) fun i hi => by
              have h2 := hi.2.2
              rcases hi.2.1 with h | h
              · have := hob i h; omega
              · (try simp only [World.size_alloc] at h); omega
            have hBz := HB3.out.1.size
            have hB4 : Below w.heap.size w w4 := HB3.out.1.trans (hb34.mono hBz)
            have hs34 := hb34.size
            have hB6' : Below w.heap.size w W5 := hB4.trans (below_of_fr hF5 hB4.size fun i hi => by have h2 : i = w5.heap.size + 1 := hi; omega)
            have hr5 := (hF5.block (w.heap.size + 1 + 1) (by omega) (fun h => by have h2 : w.heap.size + 1 + 1 = w5.heap.size + 1 := h; omega)).trans ((hb34.block (w.heap.size + 1 + 1) (by omega)).trans HB3.out.2.1)
            have z0 := fr_cell hF5 r0 (fun h => by have h2 : w.heap.size = w5.heap.size + 1 := h; omega)
            have z1 := fr_cell hF5 r1 (fun h => by have h2 : w.heap.size = w5.heap.size + 1 := h; omega)
            have f0 := cell_blk hr5 0
            have f1 := cell_blk hr5 1
            have k0 := free_blk hr5 0
            have k1 := free_blk hr5 1
            have hw5' : Win Step.cells 4 39 W5 (.slice a4 lw.length c4) (fun i => i ≠ w.heap.size + 1 + 1 ∧ w.heap.size ≤ i) lw := winC_mono (winC_move hw4' hF5 (fun i hi h => hi.2.2 h)) fun i hi => ⟨by omega, by omega⟩
            have hDC := spans_any k _ _ l lw W5.drew ((HR.out.below hB6').below (Below.refl _ _).drew) ((win_rd step_len hw5').below (Below.refl _ _).drew) (by omega) (by omega) (lines_time HL.out HW.out.1)
            have H5 := Lib.hid (And.intro hB6' (And.intro hr5 (And.intro hw5' hDC)))
            clear hb34 hB6' hr5 hw4 hw4' hw5' hDC d0 d1 p0 p1 r0 r1 hF5 hB4 hw5 hb35 hf4 hob
            try clear hoz
            try clear hsx
            have hX : w.heap.size + 1 + 1 < w5.heap.size + 1 := by omega
            generalize w5.heap.size + 1 = X at *
            go_wp2

            have ED := Lib.hid (enters_of Try.func64 (by kernel_rfl) rfl)
            set_option maxRecDepth 10000 in
            go_region_held3 (fun W => W.cell? ⟨X, 0, none⟩ = some (.int .i64 k) ∧ W.cell? ⟨X, 1, none⟩ = some (.slice a4 lw.length c4) ∧ W.cell? ⟨w.heap.size, 0, none⟩ = some (.int .i64 k) ∧ W.cell? ⟨w.heap.size, 1, none⟩ = some (.slice a l.length c)) (first | exact ⟨u0, u1, z0, z1⟩ | exact ⟨p0, p1, p2, p3⟩ | exact ⟨fr_cell (stored2 w6 (w.heap.size + 1 + 1) _ _) p0 (fun h => by have h2 : X = w.heap.size + 1 + 1 := h; omega), fr_cell (stored2 w6 (w.heap.size + 1 + 1) _ _) p1 (fun h => by have h2 : X = w.heap.size + 1 + 1 := h; omega), fr_cell (stored2 w6 (w.heap.size + 1 + 1) _ _) p2 (fun h => by have h2 : w.heap.size = w.heap.size + 1 + 1 := h; omega), fr_cell (stored2 w6 (w.heap.size + 1 + 1) _ _) p3 (fun h => by have h2 : w.heap.size = w.heap.size + 1 + 1 := h; omega)⟩ | go_keep) ((first | (refine step_call (by rfl) 64 _ _ (by rfl) (ED.out) _ (by rfl) H5.out.2.2.2 ?_; rintro _ w6 ⟨v6, rfl, hw6, hb6⟩; obtain ⟨a6, c6, rfl, _, _⟩ := winC_slice hw6; refine ⟨_, rfl, ?_⟩; have hb6' := (Below.refl W5.heap.size W5).drew.trans hb6; have p0 := below_cell hb6' u0; have p1 := below_cell hb6' u1; have p2 := below_cell hb6' z0; have p3 := below_cell hb6' z1; have q0 := below_cell hb6' f0; have q1 := below_cell hb6' f1; have k2 := below_frozen hb6' (a := ⟨w.heap.size + 1 + 1, 0, none⟩) (by show w.heap.size + 1 + 1 < _; omega) k0; have k3 := below_frozen hb6' (a := ⟨w.heap.size + 1 + 1, 1, none⟩) (by show w.heap.size + 1 + 1 < _; omega) k1) | fail))
            all_goals
              have hB6 := H5.out.1.trans (hb6'.mono H5.out.1.size)
              have hr6 := (hb6'.block _ (by omega)).trans H5.out.2.1
              have hw6l : Win Step.cells 4 39 w6 (.slice a4 lw.length c4) (fun i => i ≠ w.heap.size + 1 + 1 ∧ w.heap.size ≤ i) lw := winC_move H5.out.2.2.1 (fr_of_below (S := fun _ => False) hb6') (fun _ _ h => h)
              have hE := line_end (k := k) hB6.size hB6 hr6 (by omega) hw6l (fun i hi => hi)
              have HE := Lib.hid (hE _ rfl)
              have hsp : Win Span.cells 2 58 ((w6.setCell ⟨w.heap.size + 1 + 1, 0, none⟩ (.int .i64 k)).setCell ⟨w.heap.size + 1 + 1, 1, none⟩ (.slice a4 lw.length c4)) (.slice a6 (diffOf k l lw).length c6) (fun i => w.heap.size ≤ i) (diffOf k l lw) := winC_mono (winC_move hw6 (stored2 w6 (w.heap.size + 1 + 1) _ _) (fun i hi h => by have h2 : i = w.heap.size + 1 + 1 := h; simp [drew_size] at hi; omega)) fun i hi => by have := H5.out.1.size; simp [drew_size] at hi; omega
              have HSP := Lib.hid hsp
              clear hE hB6 hr6 hw6l hsp p0 p1 p2 p3 q0 q1 k2 k3 hw6 hb6 hb6' u0 u1 z0 z1 f0 f1 k0 k1
              generalize (w6.setCell ⟨w.heap.size + 1 + 1, 0, none⟩ (.int .i64 k)).setCell ⟨w.heap.size + 1 + 1, 1, none⟩ (.slice a4 lw.length c4) = W7 at *
              have g0 := HE.out.1
              have g1 := HE.out.2.1
              go_wp2
              exact bodyPost_ret (v := .tuple #[.agg #[.int .i64 k, .slice a4 lw.length c4], .slice a6 (diffOf k l lw).length c6, .int .i64 0]) (by simp [results, Try.results22, go_sem, g0, g1]) rfl ⟨_, _, rfl, by (try rw [hwl]); exact HE.out.2.2.1, by (try rw [hwl]); exact HSP.out, HE.out.2.2.2⟩

          · have hxw := (Array.getElem?_eq_some_iff.1 yr).1
            refine named_store2 yr _ _ fun W5 hF5 u0 u1 hz5 => ?_
            clear yr y0 y1 k0 k1
            clear r2 r3 r4 r5 e0 e1 e2 e3 p2 p3 p4 p5 hkeep
            have hw4' : Win Step.cells 4 39 w4 (.slice a4 lw.length c4) (fun i => w3.heap.size ≤ i ∧ i < w4.heap.size ∧ ¬ i = w5.heap.size) lw := winC_mono (winC_block hw4) fun i hi => by
              have h2 := hi.2.2
              rcases hi.2.1 with h | h
              · have := hob i h; omega
              · (try simp only [World.size_alloc] at h); omega
            have hBz := HB3.out.1.size
            have hB4 : Below w.heap.size w w4 := HB3.out.1.trans (hb34.mono hBz)
            have hs34 := hb34.size
            have hB6' : Below w.heap.size w W5 := hB4.trans (below_of_fr hF5 hB4.size fun i hi => by have h2 : i = w5.heap.size := hi; omega)
            have hr5 := (hF5.block (w.heap.size + 1 + 1) (by omega) (fun h => by have h2 : w.heap.size + 1 + 1 = w5.heap.size := h; omega)).trans ((hb34.block (w.heap.size + 1 + 1) (by omega)).trans HB3.out.2.1)
            have z0 := fr_cell hF5 r0 (fun h => by have h2 : w.heap.size = w5.heap.size := h; omega)
            have z1 := fr_cell hF5 r1 (fun h => by have h2 : w.heap.size = w5.heap.size := h; omega)
            have f0 := cell_blk hr5 0
            have f1 := cell_blk hr5 1
            have k0 := free_blk hr5 0
            have k1 := free_blk hr5 1
            have hw5' : Win Step.cells 4 39 W5 (.slice a4 lw.length c4) (fun i => i ≠ w.heap.size + 1 + 1 ∧ w.heap.size ≤ i) lw := winC_mono (winC_move hw4' hF5 (fun i hi h => hi.2.2 h)) fun i hi => ⟨by omega, by omega⟩
            have hDC := spans_any k _ _ l lw W5.drew ((HR.out.below hB6').below (Below.refl _ _).drew) ((win_rd step_len hw5').below (Below.refl _ _).drew) (by omega) (by omega) (lines_time HL.out HW.out.1)
            have H5 := Lib.hid (And.intro hB6' (And.intro hr5 (And.intro hw5' hDC)))
            clear hb34 hB6' hr5 hw4 hw4' hw5' hDC d0 d1 p0 p1 r0 r1 hF5 hB4 hw5 hb35 hf4 hob
            try clear hoz
            try clear hsx
            have hX : w.heap.size + 1 + 1 < w5.heap.size := by omega
            generalize w5.heap.size = X at *
            go_wp2

            have ED := Lib.hid (enters_of Try.func64 (by kernel_rfl) rfl)
            set_option maxRecDepth 10000 in
            go_region_held3 (fun W => W.cell? ⟨X, 0, none⟩ = some (.int .i64 k) ∧ W.cell? ⟨X, 1, none⟩ = some (.slice a4 lw.length c4) ∧ W.cell? ⟨w.heap.size, 0, none⟩ = some (.int .i64 k) ∧ W.cell? ⟨w.heap.size, 1, none⟩ = some (.slice a l.length c)) (first | exact ⟨u0, u1, z0, z1⟩ | exact ⟨p0, p1, p2, p3⟩ | exact ⟨fr_cell (stored2 w6 (w.heap.size + 1 + 1) _ _) p0 (fun h => by have h2 : X = w.heap.size + 1 + 1 := h; omega), fr_cell (stored2 w6 (w.heap.size + 1 + 1) _ _) p1 (fun h => by have h2 : X = w.heap.size + 1 + 1 := h; omega), fr_cell (stored2 w6 (w.heap.size + 1 + 1) _ _) p2 (fun h => by have h2 : w.heap.size = w.heap.size + 1 + 1 := h; omega), fr_cell (stored2 w6 (w.heap.size + 1 + 1) _ _) p3 (fun h => by have h2 : w.heap.size = w.heap.size + 1 + 1 := h; omega)⟩ | go_keep) ((first | (refine step_call (by rfl) 64 _ _ (by rfl) (ED.out) _ (by rfl) H5.out.2.2.2 ?_; rintro _ w6 ⟨v6, rfl, hw6, hb6⟩; obtain ⟨a6, c6, rfl, _, _⟩ := winC_slice hw6; refine ⟨_, rfl, ?_⟩; have hb6' := (Below.refl W5.heap.size W5).drew.trans hb6; have p0 := below_cell hb6' u0; have p1 := below_cell hb6' u1; have p2 := below_cell hb6' z0; have p3 := below_cell hb6' z1; have q0 := below_cell hb6' f0; have q1 := below_cell hb6' f1; have k2 := below_frozen hb6' (a := ⟨w.heap.size + 1 + 1, 0, none⟩) (by show w.heap.size + 1 + 1 < _; omega) k0; have k3 := below_frozen hb6' (a := ⟨w.heap.size + 1 + 1, 1, none⟩) (by show w.heap.size + 1 + 1 < _; omega) k1) | fail))
            all_goals
              have hB6 := H5.out.1.trans (hb6'.mono H5.out.1.size)
              have hr6 := (hb6'.block _ (by omega)).trans H5.out.2.1
              have hw6l : Win Step.cells 4 39 w6 (.slice a4 lw.length c4) (fun i => i ≠ w.heap.size + 1 + 1 ∧ w.heap.size ≤ i) lw := winC_move H5.out.2.2.1 (fr_of_below (S := fun _ => False) hb6') (fun _ _ h => h)
              have hE := line_end (k := k) hB6.size hB6 hr6 (by omega) hw6l (fun i hi => hi)
              have HE := Lib.hid (hE _ rfl)
              have hsp : Win Span.cells 2 58 ((w6.setCell ⟨w.heap.size + 1 + 1, 0, none⟩ (.int .i64 k)).setCell ⟨w.heap.size + 1 + 1, 1, none⟩ (.slice a4 lw.length c4)) (.slice a6 (diffOf k l lw).length c6) (fun i => w.heap.size ≤ i) (diffOf k l lw) := winC_mono (winC_move hw6 (stored2 w6 (w.heap.size + 1 + 1) _ _) (fun i hi h => by have h2 : i = w.heap.size + 1 + 1 := h; simp [drew_size] at hi; omega)) fun i hi => by have := H5.out.1.size; simp [drew_size] at hi; omega
              have HSP := Lib.hid hsp
              clear hE hB6 hr6 hw6l hsp p0 p1 p2 p3 q0 q1 k2 k3 hw6 hb6 hb6' u0 u1 z0 z1 f0 f1 k0 k1
              generalize (w6.setCell ⟨w.heap.size + 1 + 1, 0, none⟩ (.int .i64 k)).setCell ⟨w.heap.size + 1 + 1, 1, none⟩ (.slice a4 lw.length c4) = W7 at *
              have g0 := HE.out.1
              have g1 := HE.out.2.1
              go_wp2
              exact bodyPost_ret (v := .tuple #[.agg #[.int .i64 k, .slice a4 lw.length c4], .slice a6 (diffOf k l lw).length c6, .int .i64 0]) (by simp [results, Try.results22, go_sem, g0, g1]) rfl ⟨_, _, rfl, by (try rw [hwl]); exact HE.out.2.2.1, by (try rw [hwl]); exact HSP.out, HE.out.2.2.2⟩

          · refine named_box w4 _ _ fun W5 hbx hzx hx5 => ?_
            have u0 : W5.cell? ⟨w4.heap.size, 0, none⟩ = some (.int .i64 k) := hx5 0
            have u1 : W5.cell? ⟨w4.heap.size, 1, none⟩ = some (.slice a4 lw.length c4) := hx5 1
            have hF5 : Fr (fun i => i = w4.heap.size) w4 W5 := fr_of_below hbx
            clear hx5 hbx
            clear r2 r3 r4 r5 e0 e1 e2 e3 p2 p3 p4 p5 hkeep
            have hw4' : Win Step.cells 4 39 w4 (.slice a4 lw.length c4) (fun i => w3.heap.size ≤ i ∧ i < w4.heap.size ∧ ¬ i = w4.heap.size) lw := winC_mono (winC_block hw4) fun i hi => by
              have h2 := hi.2.2
              rcases hi.2.1 with h | h
              · have := hob i h; omega
              · (try simp only [World.size_alloc] at h); omega
            have hBz := HB3.out.1.size
            have hB4 : Below w.heap.size w w4 := HB3.out.1.trans (hb34.mono hBz)
            have hs34 := hb34.size
            have hB6' : Below w.heap.size w W5 := hB4.trans (below_of_fr hF5 hB4.size fun i hi => by have h2 : i = w4.heap.size := hi; omega)
            have hr5 := (hF5.block (w.heap.size + 1 + 1) (by omega) (fun h => by have h2 : w.heap.size + 1 + 1 = w4.heap.size := h; omega)).trans ((hb34.block (w.heap.size + 1 + 1) (by omega)).trans HB3.out.2.1)
            have z0 := fr_cell hF5 r0 (fun h => by have h2 : w.heap.size = w4.heap.size := h; omega)
            have z1 := fr_cell hF5 r1 (fun h => by have h2 : w.heap.size = w4.heap.size := h; omega)
            have f0 := cell_blk hr5 0
            have f1 := cell_blk hr5 1
            have k0 := free_blk hr5 0
            have k1 := free_blk hr5 1
            have hw5' : Win Step.cells 4 39 W5 (.slice a4 lw.length c4) (fun i => i ≠ w.heap.size + 1 + 1 ∧ w.heap.size ≤ i) lw := winC_mono (winC_move hw4' hF5 (fun i hi h => hi.2.2 h)) fun i hi => ⟨by omega, by omega⟩
            have hDC := spans_any k _ _ l lw W5.drew ((HR.out.below hB6').below (Below.refl _ _).drew) ((win_rd step_len hw5').below (Below.refl _ _).drew) (by omega) (by omega) (lines_time HL.out HW.out.1)
            have H5 := Lib.hid (And.intro hB6' (And.intro hr5 (And.intro hw5' hDC)))
            clear hb34 hB6' hr5 hw4 hw4' hw5' hDC d0 d1 p0 p1 r0 r1 hF5 hB4 hw5 hb35 hf4 hob
            try clear hoz
            try clear hsx
            have hX : w.heap.size + 1 + 1 < w4.heap.size := by omega
            generalize w4.heap.size = X at *
            go_wp2

            have ED := Lib.hid (enters_of Try.func64 (by kernel_rfl) rfl)
            set_option maxRecDepth 10000 in
            go_region_held3 (fun W => W.cell? ⟨X, 0, none⟩ = some (.int .i64 k) ∧ W.cell? ⟨X, 1, none⟩ = some (.slice a4 lw.length c4) ∧ W.cell? ⟨w.heap.size, 0, none⟩ = some (.int .i64 k) ∧ W.cell? ⟨w.heap.size, 1, none⟩ = some (.slice a l.length c)) (first | exact ⟨u0, u1, z0, z1⟩ | exact ⟨p0, p1, p2, p3⟩ | exact ⟨fr_cell (stored2 w6 (w.heap.size + 1 + 1) _ _) p0 (fun h => by have h2 : X = w.heap.size + 1 + 1 := h; omega), fr_cell (stored2 w6 (w.heap.size + 1 + 1) _ _) p1 (fun h => by have h2 : X = w.heap.size + 1 + 1 := h; omega), fr_cell (stored2 w6 (w.heap.size + 1 + 1) _ _) p2 (fun h => by have h2 : w.heap.size = w.heap.size + 1 + 1 := h; omega), fr_cell (stored2 w6 (w.heap.size + 1 + 1) _ _) p3 (fun h => by have h2 : w.heap.size = w.heap.size + 1 + 1 := h; omega)⟩ | go_keep) ((first | (refine step_call (by rfl) 64 _ _ (by rfl) (ED.out) _ (by rfl) H5.out.2.2.2 ?_; rintro _ w6 ⟨v6, rfl, hw6, hb6⟩; obtain ⟨a6, c6, rfl, _, _⟩ := winC_slice hw6; refine ⟨_, rfl, ?_⟩; have hb6' := (Below.refl W5.heap.size W5).drew.trans hb6; have p0 := below_cell hb6' u0; have p1 := below_cell hb6' u1; have p2 := below_cell hb6' z0; have p3 := below_cell hb6' z1; have q0 := below_cell hb6' f0; have q1 := below_cell hb6' f1; have k2 := below_frozen hb6' (a := ⟨w.heap.size + 1 + 1, 0, none⟩) (by show w.heap.size + 1 + 1 < _; omega) k0; have k3 := below_frozen hb6' (a := ⟨w.heap.size + 1 + 1, 1, none⟩) (by show w.heap.size + 1 + 1 < _; omega) k1) | fail))
            all_goals
              have hB6 := H5.out.1.trans (hb6'.mono H5.out.1.size)
              have hr6 := (hb6'.block _ (by omega)).trans H5.out.2.1
              have hw6l : Win Step.cells 4 39 w6 (.slice a4 lw.length c4) (fun i => i ≠ w.heap.size + 1 + 1 ∧ w.heap.size ≤ i) lw := winC_move H5.out.2.2.1 (fr_of_below (S := fun _ => False) hb6') (fun _ _ h => h)
              have hE := line_end (k := k) hB6.size hB6 hr6 (by omega) hw6l (fun i hi => hi)
              have HE := Lib.hid (hE _ rfl)
              have hsp : Win Span.cells 2 58 ((w6.setCell ⟨w.heap.size + 1 + 1, 0, none⟩ (.int .i64 k)).setCell ⟨w.heap.size + 1 + 1, 1, none⟩ (.slice a4 lw.length c4)) (.slice a6 (diffOf k l lw).length c6) (fun i => w.heap.size ≤ i) (diffOf k l lw) := winC_mono (winC_move hw6 (stored2 w6 (w.heap.size + 1 + 1) _ _) (fun i hi h => by have h2 : i = w.heap.size + 1 + 1 := h; simp [drew_size] at hi; omega)) fun i hi => by have := H5.out.1.size; simp [drew_size] at hi; omega
              have HSP := Lib.hid hsp
              clear hE hB6 hr6 hw6l hsp p0 p1 p2 p3 q0 q1 k2 k3 hw6 hb6 hb6' u0 u1 z0 z1 f0 f1 k0 k1
              generalize (w6.setCell ⟨w.heap.size + 1 + 1, 0, none⟩ (.int .i64 k)).setCell ⟨w.heap.size + 1 + 1, 1, none⟩ (.slice a4 lw.length c4) = W7 at *
              have g0 := HE.out.1
              have g1 := HE.out.2.1
              go_wp2
              exact bodyPost_ret (v := .tuple #[.agg #[.int .i64 k, .slice a4 lw.length c4], .slice a6 (diffOf k l lw).length c6, .int .i64 0]) (by simp [results, Try.results22, go_sem, g0, g1]) rfl ⟨_, _, rfl, by (try rw [hwl]); exact HE.out.2.2.1, by (try rw [hwl]); exact HSP.out, HE.out.2.2.2⟩

          · have hxw := (Array.getElem?_eq_some_iff.1 yr).1
            refine named_store2 yr _ _ fun W5 hF5 u0 u1 hz5 => ?_
            clear yr y0 y1 k0 k1
            clear r2 r3 r4 r5 e0 e1 e2 e3 p2 p3 p4 p5 hkeep
            have hw4' : Win Step.cells 4 39 w4 (.slice a4 lw.length c4) (fun i => w3.heap.size ≤ i ∧ i < w4.heap.size ∧ ¬ i = w5.heap.size) lw := winC_mono (winC_block hw4) fun i hi => by
              have h2 := hi.2.2
              rcases hi.2.1 with h | h
              · have := hob i h; omega
              · (try simp only [World.size_alloc] at h); omega
            have hBz := HB3.out.1.size
            have hB4 : Below w.heap.size w w4 := HB3.out.1.trans (hb34.mono hBz)
            have hs34 := hb34.size
            have hB6' : Below w.heap.size w W5 := hB4.trans (below_of_fr hF5 hB4.size fun i hi => by have h2 : i = w5.heap.size := hi; omega)
            have hr5 := (hF5.block (w.heap.size + 1 + 1) (by omega) (fun h => by have h2 : w.heap.size + 1 + 1 = w5.heap.size := h; omega)).trans ((hb34.block (w.heap.size + 1 + 1) (by omega)).trans HB3.out.2.1)
            have z0 := fr_cell hF5 r0 (fun h => by have h2 : w.heap.size = w5.heap.size := h; omega)
            have z1 := fr_cell hF5 r1 (fun h => by have h2 : w.heap.size = w5.heap.size := h; omega)
            have f0 := cell_blk hr5 0
            have f1 := cell_blk hr5 1
            have k0 := free_blk hr5 0
            have k1 := free_blk hr5 1
            have hw5' : Win Step.cells 4 39 W5 (.slice a4 lw.length c4) (fun i => i ≠ w.heap.size + 1 + 1 ∧ w.heap.size ≤ i) lw := winC_mono (winC_move hw4' hF5 (fun i hi h => hi.2.2 h)) fun i hi => ⟨by omega, by omega⟩
            have hDC := spans_any k _ _ l lw W5.drew ((HR.out.below hB6').below (Below.refl _ _).drew) ((win_rd step_len hw5').below (Below.refl _ _).drew) (by omega) (by omega) (lines_time HL.out HW.out.1)
            have H5 := Lib.hid (And.intro hB6' (And.intro hr5 (And.intro hw5' hDC)))
            clear hb34 hB6' hr5 hw4 hw4' hw5' hDC d0 d1 p0 p1 r0 r1 hF5 hB4 hw5 hb35 hf4 hob
            try clear hoz
            try clear hsx
            have hX : w.heap.size + 1 + 1 < w5.heap.size := by omega
            generalize w5.heap.size = X at *
            go_wp2

            have ED := Lib.hid (enters_of Try.func64 (by kernel_rfl) rfl)
            set_option maxRecDepth 10000 in
            go_region_held3 (fun W => W.cell? ⟨X, 0, none⟩ = some (.int .i64 k) ∧ W.cell? ⟨X, 1, none⟩ = some (.slice a4 lw.length c4) ∧ W.cell? ⟨w.heap.size, 0, none⟩ = some (.int .i64 k) ∧ W.cell? ⟨w.heap.size, 1, none⟩ = some (.slice a l.length c)) (first | exact ⟨u0, u1, z0, z1⟩ | exact ⟨p0, p1, p2, p3⟩ | exact ⟨fr_cell (stored2 w6 (w.heap.size + 1 + 1) _ _) p0 (fun h => by have h2 : X = w.heap.size + 1 + 1 := h; omega), fr_cell (stored2 w6 (w.heap.size + 1 + 1) _ _) p1 (fun h => by have h2 : X = w.heap.size + 1 + 1 := h; omega), fr_cell (stored2 w6 (w.heap.size + 1 + 1) _ _) p2 (fun h => by have h2 : w.heap.size = w.heap.size + 1 + 1 := h; omega), fr_cell (stored2 w6 (w.heap.size + 1 + 1) _ _) p3 (fun h => by have h2 : w.heap.size = w.heap.size + 1 + 1 := h; omega)⟩ | go_keep) ((first | (refine step_call (by rfl) 64 _ _ (by rfl) (ED.out) _ (by rfl) H5.out.2.2.2 ?_; rintro _ w6 ⟨v6, rfl, hw6, hb6⟩; obtain ⟨a6, c6, rfl, _, _⟩ := winC_slice hw6; refine ⟨_, rfl, ?_⟩; have hb6' := (Below.refl W5.heap.size W5).drew.trans hb6; have p0 := below_cell hb6' u0; have p1 := below_cell hb6' u1; have p2 := below_cell hb6' z0; have p3 := below_cell hb6' z1; have q0 := below_cell hb6' f0; have q1 := below_cell hb6' f1; have k2 := below_frozen hb6' (a := ⟨w.heap.size + 1 + 1, 0, none⟩) (by show w.heap.size + 1 + 1 < _; omega) k0; have k3 := below_frozen hb6' (a := ⟨w.heap.size + 1 + 1, 1, none⟩) (by show w.heap.size + 1 + 1 < _; omega) k1) | fail))
            all_goals
              have hB6 := H5.out.1.trans (hb6'.mono H5.out.1.size)
              have hr6 := (hb6'.block _ (by omega)).trans H5.out.2.1
              have hw6l : Win Step.cells 4 39 w6 (.slice a4 lw.length c4) (fun i => i ≠ w.heap.size + 1 + 1 ∧ w.heap.size ≤ i) lw := winC_move H5.out.2.2.1 (fr_of_below (S := fun _ => False) hb6') (fun _ _ h => h)
              have hE := line_end (k := k) hB6.size hB6 hr6 (by omega) hw6l (fun i hi => hi)
              have HE := Lib.hid (hE _ rfl)
              have hsp : Win Span.cells 2 58 ((w6.setCell ⟨w.heap.size + 1 + 1, 0, none⟩ (.int .i64 k)).setCell ⟨w.heap.size + 1 + 1, 1, none⟩ (.slice a4 lw.length c4)) (.slice a6 (diffOf k l lw).length c6) (fun i => w.heap.size ≤ i) (diffOf k l lw) := winC_mono (winC_move hw6 (stored2 w6 (w.heap.size + 1 + 1) _ _) (fun i hi h => by have h2 : i = w.heap.size + 1 + 1 := h; simp [drew_size] at hi; omega)) fun i hi => by have := H5.out.1.size; simp [drew_size] at hi; omega
              have HSP := Lib.hid hsp
              clear hE hB6 hr6 hw6l hsp p0 p1 p2 p3 q0 q1 k2 k3 hw6 hb6 hb6' u0 u1 z0 z1 f0 f1 k0 k1
              generalize (w6.setCell ⟨w.heap.size + 1 + 1, 0, none⟩ (.int .i64 k)).setCell ⟨w.heap.size + 1 + 1, 1, none⟩ (.slice a4 lw.length c4) = W7 at *
              have g0 := HE.out.1
              have g1 := HE.out.2.1
              go_wp2
              exact bodyPost_ret (v := .tuple #[.agg #[.int .i64 k, .slice a4 lw.length c4], .slice a6 (diffOf k l lw).length c6, .int .i64 0]) (by simp [results, Try.results22, go_sem, g0, g1]) rfl ⟨_, _, rfl, by (try rw [hwl]); exact HE.out.2.2.1, by (try rw [hwl]); exact HSP.out, HE.out.2.2.2⟩

          · have hxw := (Array.getElem?_eq_some_iff.1 yr).1
            refine named_store2 yr _ _ fun W5 hF5 u0 u1 hz5 => ?_
            clear yr y0 y1 k0 k1
            clear r2 r3 r4 r5 e0 e1 e2 e3 p2 p3 p4 p5 hkeep
            have hw4' : Win Step.cells 4 39 w4 (.slice a4 lw.length c4) (fun i => w3.heap.size ≤ i ∧ i < w4.heap.size ∧ ¬ i = w3.heap.size + 1) lw := winC_mono (winC_block hw4) fun i hi => by
              have h2 := hi.2.2
              rcases hi.2.1 with h | h
              · have := hob i h; omega
              · (try simp only [World.size_alloc] at h); omega
            have hBz := HB3.out.1.size
            have hB4 : Below w.heap.size w w4 := HB3.out.1.trans (hb34.mono hBz)
            have hs34 := hb34.size
            have hB6' : Below w.heap.size w W5 := hB4.trans (below_of_fr hF5 hB4.size fun i hi => by have h2 : i = w3.heap.size + 1 := hi; omega)
            have hr5 := (hF5.block (w.heap.size + 1 + 1) (by omega) (fun h => by have h2 : w.heap.size + 1 + 1 = w3.heap.size + 1 := h; omega)).trans ((hb34.block (w.heap.size + 1 + 1) (by omega)).trans HB3.out.2.1)
            have z0 := fr_cell hF5 r0 (fun h => by have h2 : w.heap.size = w3.heap.size + 1 := h; omega)
            have z1 := fr_cell hF5 r1 (fun h => by have h2 : w.heap.size = w3.heap.size + 1 := h; omega)
            have f0 := cell_blk hr5 0
            have f1 := cell_blk hr5 1
            have k0 := free_blk hr5 0
            have k1 := free_blk hr5 1
            have hw5' : Win Step.cells 4 39 W5 (.slice a4 lw.length c4) (fun i => i ≠ w.heap.size + 1 + 1 ∧ w.heap.size ≤ i) lw := winC_mono (winC_move hw4' hF5 (fun i hi h => hi.2.2 h)) fun i hi => ⟨by omega, by omega⟩
            have hDC := spans_any k _ _ l lw W5.drew ((HR.out.below hB6').below (Below.refl _ _).drew) ((win_rd step_len hw5').below (Below.refl _ _).drew) (by omega) (by omega) (lines_time HL.out HW.out.1)
            have H5 := Lib.hid (And.intro hB6' (And.intro hr5 (And.intro hw5' hDC)))
            clear hb34 hB6' hr5 hw4 hw4' hw5' hDC d0 d1 p0 p1 r0 r1 hF5 hB4 hw5 hb35 hf4 hob
            try clear hoz
            try clear hsx
            have hX : w.heap.size + 1 + 1 < w3.heap.size + 1 := by omega
            generalize w3.heap.size + 1 = X at *
            go_wp2

            have ED := Lib.hid (enters_of Try.func64 (by kernel_rfl) rfl)
            set_option maxRecDepth 10000 in
            go_region_held3 (fun W => W.cell? ⟨X, 0, none⟩ = some (.int .i64 k) ∧ W.cell? ⟨X, 1, none⟩ = some (.slice a4 lw.length c4) ∧ W.cell? ⟨w.heap.size, 0, none⟩ = some (.int .i64 k) ∧ W.cell? ⟨w.heap.size, 1, none⟩ = some (.slice a l.length c)) (first | exact ⟨u0, u1, z0, z1⟩ | exact ⟨p0, p1, p2, p3⟩ | exact ⟨fr_cell (stored2 w6 (w.heap.size + 1 + 1) _ _) p0 (fun h => by have h2 : X = w.heap.size + 1 + 1 := h; omega), fr_cell (stored2 w6 (w.heap.size + 1 + 1) _ _) p1 (fun h => by have h2 : X = w.heap.size + 1 + 1 := h; omega), fr_cell (stored2 w6 (w.heap.size + 1 + 1) _ _) p2 (fun h => by have h2 : w.heap.size = w.heap.size + 1 + 1 := h; omega), fr_cell (stored2 w6 (w.heap.size + 1 + 1) _ _) p3 (fun h => by have h2 : w.heap.size = w.heap.size + 1 + 1 := h; omega)⟩ | go_keep) ((first | (refine step_call (by rfl) 64 _ _ (by rfl) (ED.out) _ (by rfl) H5.out.2.2.2 ?_; rintro _ w6 ⟨v6, rfl, hw6, hb6⟩; obtain ⟨a6, c6, rfl, _, _⟩ := winC_slice hw6; refine ⟨_, rfl, ?_⟩; have hb6' := (Below.refl W5.heap.size W5).drew.trans hb6; have p0 := below_cell hb6' u0; have p1 := below_cell hb6' u1; have p2 := below_cell hb6' z0; have p3 := below_cell hb6' z1; have q0 := below_cell hb6' f0; have q1 := below_cell hb6' f1; have k2 := below_frozen hb6' (a := ⟨w.heap.size + 1 + 1, 0, none⟩) (by show w.heap.size + 1 + 1 < _; omega) k0; have k3 := below_frozen hb6' (a := ⟨w.heap.size + 1 + 1, 1, none⟩) (by show w.heap.size + 1 + 1 < _; omega) k1) | fail))
            all_goals
              have hB6 := H5.out.1.trans (hb6'.mono H5.out.1.size)
              have hr6 := (hb6'.block _ (by omega)).trans H5.out.2.1
              have hw6l : Win Step.cells 4 39 w6 (.slice a4 lw.length c4) (fun i => i ≠ w.heap.size + 1 + 1 ∧ w.heap.size ≤ i) lw := winC_move H5.out.2.2.1 (fr_of_below (S := fun _ => False) hb6') (fun _ _ h => h)
              have hE := line_end (k := k) hB6.size hB6 hr6 (by omega) hw6l (fun i hi => hi)
              have HE := Lib.hid (hE _ rfl)
              have hsp : Win Span.cells 2 58 ((w6.setCell ⟨w.heap.size + 1 + 1, 0, none⟩ (.int .i64 k)).setCell ⟨w.heap.size + 1 + 1, 1, none⟩ (.slice a4 lw.length c4)) (.slice a6 (diffOf k l lw).length c6) (fun i => w.heap.size ≤ i) (diffOf k l lw) := winC_mono (winC_move hw6 (stored2 w6 (w.heap.size + 1 + 1) _ _) (fun i hi h => by have h2 : i = w.heap.size + 1 + 1 := h; simp [drew_size] at hi; omega)) fun i hi => by have := H5.out.1.size; simp [drew_size] at hi; omega
              have HSP := Lib.hid hsp
              clear hE hB6 hr6 hw6l hsp p0 p1 p2 p3 q0 q1 k2 k3 hw6 hb6 hb6' u0 u1 z0 z1 f0 f1 k0 k1
              generalize (w6.setCell ⟨w.heap.size + 1 + 1, 0, none⟩ (.int .i64 k)).setCell ⟨w.heap.size + 1 + 1, 1, none⟩ (.slice a4 lw.length c4) = W7 at *
              have g0 := HE.out.1
              have g1 := HE.out.2.1
              go_wp2
              exact bodyPost_ret (v := .tuple #[.agg #[.int .i64 k, .slice a4 lw.length c4], .slice a6 (diffOf k l lw).length c6, .int .i64 0]) (by simp [results, Try.results22, go_sem, g0, g1]) rfl ⟨_, _, rfl, by (try rw [hwl]); exact HE.out.2.2.1, by (try rw [hwl]); exact HSP.out, HE.out.2.2.2⟩

          · have hxw := (Array.getElem?_eq_some_iff.1 yr).1
            refine named_store2 yr _ _ fun W5 hF5 u0 u1 hz5 => ?_
            clear yr y0 y1 k0 k1
            clear r2 r3 r4 r5 e0 e1 e2 e3 p2 p3 p4 p5 hkeep
            have hw4' : Win Step.cells 4 39 w4 (.slice a4 lw.length c4) (fun i => w3.heap.size ≤ i ∧ i < w4.heap.size ∧ ¬ i = w3.heap.size) lw := winC_mono (winC_block hw4) fun i hi => by
              have h2 := hi.2.2
              rcases hi.2.1 with h | h
              · have := hob i h; omega
              · (try simp only [World.size_alloc] at h); omega
            have hBz := HB3.out.1.size
            have hB4 : Below w.heap.size w w4 := HB3.out.1.trans (hb34.mono hBz)
            have hs34 := hb34.size
            have hB6' : Below w.heap.size w W5 := hB4.trans (below_of_fr hF5 hB4.size fun i hi => by have h2 : i = w3.heap.size := hi; omega)
            have hr5 := (hF5.block (w.heap.size + 1 + 1) (by omega) (fun h => by have h2 : w.heap.size + 1 + 1 = w3.heap.size := h; omega)).trans ((hb34.block (w.heap.size + 1 + 1) (by omega)).trans HB3.out.2.1)
            have z0 := fr_cell hF5 r0 (fun h => by have h2 : w.heap.size = w3.heap.size := h; omega)
            have z1 := fr_cell hF5 r1 (fun h => by have h2 : w.heap.size = w3.heap.size := h; omega)
            have f0 := cell_blk hr5 0
            have f1 := cell_blk hr5 1
            have k0 := free_blk hr5 0
            have k1 := free_blk hr5 1
            have hw5' : Win Step.cells 4 39 W5 (.slice a4 lw.length c4) (fun i => i ≠ w.heap.size + 1 + 1 ∧ w.heap.size ≤ i) lw := winC_mono (winC_move hw4' hF5 (fun i hi h => hi.2.2 h)) fun i hi => ⟨by omega, by omega⟩
            have hDC := spans_any k _ _ l lw W5.drew ((HR.out.below hB6').below (Below.refl _ _).drew) ((win_rd step_len hw5').below (Below.refl _ _).drew) (by omega) (by omega) (lines_time HL.out HW.out.1)
            have H5 := Lib.hid (And.intro hB6' (And.intro hr5 (And.intro hw5' hDC)))
            clear hb34 hB6' hr5 hw4 hw4' hw5' hDC d0 d1 p0 p1 r0 r1 hF5 hB4 hw5 hb35 hf4 hob
            try clear hoz
            try clear hsx
            have hX : w.heap.size + 1 + 1 < w3.heap.size := by omega
            generalize w3.heap.size = X at *
            go_wp2

            have ED := Lib.hid (enters_of Try.func64 (by kernel_rfl) rfl)
            set_option maxRecDepth 10000 in
            go_region_held3 (fun W => W.cell? ⟨X, 0, none⟩ = some (.int .i64 k) ∧ W.cell? ⟨X, 1, none⟩ = some (.slice a4 lw.length c4) ∧ W.cell? ⟨w.heap.size, 0, none⟩ = some (.int .i64 k) ∧ W.cell? ⟨w.heap.size, 1, none⟩ = some (.slice a l.length c)) (first | exact ⟨u0, u1, z0, z1⟩ | exact ⟨p0, p1, p2, p3⟩ | exact ⟨fr_cell (stored2 w6 (w.heap.size + 1 + 1) _ _) p0 (fun h => by have h2 : X = w.heap.size + 1 + 1 := h; omega), fr_cell (stored2 w6 (w.heap.size + 1 + 1) _ _) p1 (fun h => by have h2 : X = w.heap.size + 1 + 1 := h; omega), fr_cell (stored2 w6 (w.heap.size + 1 + 1) _ _) p2 (fun h => by have h2 : w.heap.size = w.heap.size + 1 + 1 := h; omega), fr_cell (stored2 w6 (w.heap.size + 1 + 1) _ _) p3 (fun h => by have h2 : w.heap.size = w.heap.size + 1 + 1 := h; omega)⟩ | go_keep) ((first | (refine step_call (by rfl) 64 _ _ (by rfl) (ED.out) _ (by rfl) H5.out.2.2.2 ?_; rintro _ w6 ⟨v6, rfl, hw6, hb6⟩; obtain ⟨a6, c6, rfl, _, _⟩ := winC_slice hw6; refine ⟨_, rfl, ?_⟩; have hb6' := (Below.refl W5.heap.size W5).drew.trans hb6; have p0 := below_cell hb6' u0; have p1 := below_cell hb6' u1; have p2 := below_cell hb6' z0; have p3 := below_cell hb6' z1; have q0 := below_cell hb6' f0; have q1 := below_cell hb6' f1; have k2 := below_frozen hb6' (a := ⟨w.heap.size + 1 + 1, 0, none⟩) (by show w.heap.size + 1 + 1 < _; omega) k0; have k3 := below_frozen hb6' (a := ⟨w.heap.size + 1 + 1, 1, none⟩) (by show w.heap.size + 1 + 1 < _; omega) k1) | fail))
            all_goals
              have hB6 := H5.out.1.trans (hb6'.mono H5.out.1.size)
              have hr6 := (hb6'.block _ (by omega)).trans H5.out.2.1
              have hw6l : Win Step.cells 4 39 w6 (.slice a4 lw.length c4) (fun i => i ≠ w.heap.size + 1 + 1 ∧ w.heap.size ≤ i) lw := winC_move H5.out.2.2.1 (fr_of_below (S := fun _ => False) hb6') (fun _ _ h => h)
              have hE := line_end (k := k) hB6.size hB6 hr6 (by omega) hw6l (fun i hi => hi)
              have HE := Lib.hid (hE _ rfl)
              have hsp : Win Span.cells 2 58 ((w6.setCell ⟨w.heap.size + 1 + 1, 0, none⟩ (.int .i64 k)).setCell ⟨w.heap.size + 1 + 1, 1, none⟩ (.slice a4 lw.length c4)) (.slice a6 (diffOf k l lw).length c6) (fun i => w.heap.size ≤ i) (diffOf k l lw) := winC_mono (winC_move hw6 (stored2 w6 (w.heap.size + 1 + 1) _ _) (fun i hi h => by have h2 : i = w.heap.size + 1 + 1 := h; simp [drew_size] at hi; omega)) fun i hi => by have := H5.out.1.size; simp [drew_size] at hi; omega
              have HSP := Lib.hid hsp
              clear hE hB6 hr6 hw6l hsp p0 p1 p2 p3 q0 q1 k2 k3 hw6 hb6 hb6' u0 u1 z0 z1 f0 f1 k0 k1
              generalize (w6.setCell ⟨w.heap.size + 1 + 1, 0, none⟩ (.int .i64 k)).setCell ⟨w.heap.size + 1 + 1, 1, none⟩ (.slice a4 lw.length c4) = W7 at *
              have g0 := HE.out.1
              have g1 := HE.out.2.1
              go_wp2
              exact bodyPost_ret (v := .tuple #[.agg #[.int .i64 k, .slice a4 lw.length c4], .slice a6 (diffOf k l lw).length c6, .int .i64 0]) (by simp [results, Try.results22, go_sem, g0, g1]) rfl ⟨_, _, rfl, by (try rw [hwl]); exact HE.out.2.2.1, by (try rw [hwl]); exact HSP.out, HE.out.2.2.2⟩

          · have hxw := (Array.getElem?_eq_some_iff.1 yr).1
            refine named_store2 yr _ _ fun W5 hF5 u0 u1 hz5 => ?_
            clear yr y0 y1 k0 k1
            clear r2 r3 r4 r5 e0 e1 e2 e3 p2 p3 p4 p5 hkeep
            have hw4' : Win Step.cells 4 39 w4 (.slice a4 lw.length c4) (fun i => w3.heap.size ≤ i ∧ i < w4.heap.size ∧ ¬ i = w3.heap.size) lw := winC_mono (winC_block hw4) fun i hi => by
              have h2 := hi.2.2
              rcases hi.2.1 with h | h
              · have := hob i h; omega
              · (try simp only [World.size_alloc] at h); omega
            have hBz := HB3.out.1.size
            have hB4 : Below w.heap.size w w4 := HB3.out.1.trans (hb34.mono hBz)
            have hs34 := hb34.size
            have hB6' : Below w.heap.size w W5 := hB4.trans (below_of_fr hF5 hB4.size fun i hi => by have h2 : i = w3.heap.size := hi; omega)
            have hr5 := (hF5.block (w.heap.size + 1 + 1) (by omega) (fun h => by have h2 : w.heap.size + 1 + 1 = w3.heap.size := h; omega)).trans ((hb34.block (w.heap.size + 1 + 1) (by omega)).trans HB3.out.2.1)
            have z0 := fr_cell hF5 r0 (fun h => by have h2 : w.heap.size = w3.heap.size := h; omega)
            have z1 := fr_cell hF5 r1 (fun h => by have h2 : w.heap.size = w3.heap.size := h; omega)
            have f0 := cell_blk hr5 0
            have f1 := cell_blk hr5 1
            have k0 := free_blk hr5 0
            have k1 := free_blk hr5 1
            have hw5' : Win Step.cells 4 39 W5 (.slice a4 lw.length c4) (fun i => i ≠ w.heap.size + 1 + 1 ∧ w.heap.size ≤ i) lw := winC_mono (winC_move hw4' hF5 (fun i hi h => hi.2.2 h)) fun i hi => ⟨by omega, by omega⟩
            have hDC := spans_any k _ _ l lw W5.drew ((HR.out.below hB6').below (Below.refl _ _).drew) ((win_rd step_len hw5').below (Below.refl _ _).drew) (by omega) (by omega) (lines_time HL.out HW.out.1)
            have H5 := Lib.hid (And.intro hB6' (And.intro hr5 (And.intro hw5' hDC)))
            clear hb34 hB6' hr5 hw4 hw4' hw5' hDC d0 d1 p0 p1 r0 r1 hF5 hB4 hw5 hb35 hf4 hob
            try clear hoz
            try clear hsx
            have hX : w.heap.size + 1 + 1 < w3.heap.size := by omega
            generalize w3.heap.size = X at *
            go_wp2

            have ED := Lib.hid (enters_of Try.func64 (by kernel_rfl) rfl)
            set_option maxRecDepth 10000 in
            go_region_held3 (fun W => W.cell? ⟨X, 0, none⟩ = some (.int .i64 k) ∧ W.cell? ⟨X, 1, none⟩ = some (.slice a4 lw.length c4) ∧ W.cell? ⟨w.heap.size, 0, none⟩ = some (.int .i64 k) ∧ W.cell? ⟨w.heap.size, 1, none⟩ = some (.slice a l.length c)) (first | exact ⟨u0, u1, z0, z1⟩ | exact ⟨p0, p1, p2, p3⟩ | exact ⟨fr_cell (stored2 w6 (w.heap.size + 1 + 1) _ _) p0 (fun h => by have h2 : X = w.heap.size + 1 + 1 := h; omega), fr_cell (stored2 w6 (w.heap.size + 1 + 1) _ _) p1 (fun h => by have h2 : X = w.heap.size + 1 + 1 := h; omega), fr_cell (stored2 w6 (w.heap.size + 1 + 1) _ _) p2 (fun h => by have h2 : w.heap.size = w.heap.size + 1 + 1 := h; omega), fr_cell (stored2 w6 (w.heap.size + 1 + 1) _ _) p3 (fun h => by have h2 : w.heap.size = w.heap.size + 1 + 1 := h; omega)⟩ | go_keep) ((first | (refine step_call (by rfl) 64 _ _ (by rfl) (ED.out) _ (by rfl) H5.out.2.2.2 ?_; rintro _ w6 ⟨v6, rfl, hw6, hb6⟩; obtain ⟨a6, c6, rfl, _, _⟩ := winC_slice hw6; refine ⟨_, rfl, ?_⟩; have hb6' := (Below.refl W5.heap.size W5).drew.trans hb6; have p0 := below_cell hb6' u0; have p1 := below_cell hb6' u1; have p2 := below_cell hb6' z0; have p3 := below_cell hb6' z1; have q0 := below_cell hb6' f0; have q1 := below_cell hb6' f1; have k2 := below_frozen hb6' (a := ⟨w.heap.size + 1 + 1, 0, none⟩) (by show w.heap.size + 1 + 1 < _; omega) k0; have k3 := below_frozen hb6' (a := ⟨w.heap.size + 1 + 1, 1, none⟩) (by show w.heap.size + 1 + 1 < _; omega) k1) | fail))
            all_goals
              have hB6 := H5.out.1.trans (hb6'.mono H5.out.1.size)
              have hr6 := (hb6'.block _ (by omega)).trans H5.out.2.1
              have hw6l : Win Step.cells 4 39 w6 (.slice a4 lw.length c4) (fun i => i ≠ w.heap.size + 1 + 1 ∧ w.heap.size ≤ i) lw := winC_move H5.out.2.2.1 (fr_of_below (S := fun _ => False) hb6') (fun _ _ h => h)
              have hE := line_end (k := k) hB6.size hB6 hr6 (by omega) hw6l (fun i hi => hi)
              have HE := Lib.hid (hE _ rfl)
              have hsp : Win Span.cells 2 58 ((w6.setCell ⟨w.heap.size + 1 + 1, 0, none⟩ (.int .i64 k)).setCell ⟨w.heap.size + 1 + 1, 1, none⟩ (.slice a4 lw.length c4)) (.slice a6 (diffOf k l lw).length c6) (fun i => w.heap.size ≤ i) (diffOf k l lw) := winC_mono (winC_move hw6 (stored2 w6 (w.heap.size + 1 + 1) _ _) (fun i hi h => by have h2 : i = w.heap.size + 1 + 1 := h; simp [drew_size] at hi; omega)) fun i hi => by have := H5.out.1.size; simp [drew_size] at hi; omega
              have HSP := Lib.hid hsp
              clear hE hB6 hr6 hw6l hsp p0 p1 p2 p3 q0 q1 k2 k3 hw6 hb6 hb6' u0 u1 z0 z1 f0 f1 k0 k1
              generalize (w6.setCell ⟨w.heap.size + 1 + 1, 0, none⟩ (.int .i64 k)).setCell ⟨w.heap.size + 1 + 1, 1, none⟩ (.slice a4 lw.length c4) = W7 at *
              have g0 := HE.out.1
              have g1 := HE.out.2.1
              go_wp2
              exact bodyPost_ret (v := .tuple #[.agg #[.int .i64 k, .slice a4 lw.length c4], .slice a6 (diffOf k l lw).length c6, .int .i64 0]) (by simp [results, Try.results22, go_sem, g0, g1]) rfl ⟨_, _, rfl, by (try rw [hwl]); exact HE.out.2.2.1, by (try rw [hwl]); exact HSP.out, HE.out.2.2.2⟩

end Go.Proofs.Ytkoeplbkeboklaa
/- slices.Equal at pairs, spans and lives. -/
set_option linter.unusedVariables false
set_option linter.unusedSimpArgs false
namespace Go.Proofs.Ytkoeplbkeboklaa
open Go.RowKit
set_option maxHeartbeats 2000000 in
/-- equalPairs: two rows are read and compared. -/
theorem equalPairs_any (v1 v2 : Value) (xs ys : List Pair) (w : World) (h1 : Rd Pair.cells 2 w v1 xs) (h2 : Rd Pair.cells 2 w v2 ys) :
    Calls Try.prog 39 #[v1, v2] w fun e w' => e = .returned (.bool (decide (xs = ys))) ∧ Below w.heap.size w w' := by
  obtain ⟨n1, a1, c1, rfl, r1⟩ := h1
  obtain ⟨n2, a2, c2, rfl, r2⟩ := h2
  by_cases hl : xs.length = ys.length
  · have hlb : ((xs.length : Int) != (ys.length : Int)) = false := by rw [hl]; simp
    have hlc : ((ys.length : Int) != (ys.length : Int)) = false := by simp
    rw [hl] at hlb ⊢
    have HL := Lib.hid hl
    have m1 : xs.length ≤ ys.length := by omega
    have m2 : ys.length ≤ xs.length := by omega
    clear hl n1
    have R1 := Lib.hid r1
    have R2 := Lib.hid r2
    clear r1 r2
    go_enter Try.func39, Try.ntmps39
    go_wp2
    go_loopw [13] (fun i W => ∃ n : Nat, i = .int .i64 n ∧ n ≤ ys.length ∧ eqTo xs ys n ∧ Below w.heap.size w W) (fun i _ => ys.length - (intOf i).toNat)
    case atStart => exact ⟨0, rfl, by omega, eqTo_zero _ _, Below.refl _ _⟩
    case round =>
      obtain ⟨n, rfl, hnl, hok, hB⟩ := hrel
      by_cases hlt' : n < ys.length
      · obtain ⟨b1, o1, rfl, hb1, rd1⟩ := R1.out (by omega)
        obtain ⟨b2, o2, rfl, hb2, rd2⟩ := R2.out (by omega)
        have hx := List.getElem?_eq_getElem (show n < xs.length by omega)
        have hy := List.getElem?_eq_getElem (show n < ys.length by omega)
        generalize xs[n] = x at hx
        generalize ys[n] = y at hy
        have hc1 : ∀ j u, x.cells[j]? = some u → wr.cell? ⟨b1, o1 + n * 2 + j, none⟩ = some u := fun j u hu => (hB.cell (p := ⟨b1, _, none⟩) hb1).trans (rd1 n x hx j u hu)
        have hc2 : ∀ j u, y.cells[j]? = some u → wr.cell? ⟨b2, o2 + n * 2 + j, none⟩ = some u := fun j u hu => (hB.cell (p := ⟨b2, _, none⟩) hb2).trans (rd2 n y hy j u hu)
        have HX := Lib.hid hx; clear hx
        have HY := Lib.hid hy; clear hy
        have q0 : wr.cell? ⟨b1, o1 + n * 2, none⟩ = some (.int .i64 x.key) := hc1 0 _ rfl
        have q1 := hc1 1 _ rfl
        have p0 : wr.cell? ⟨b2, o2 + n * 2, none⟩ = some (.int .i64 y.key) := hc2 0 _ rfl
        have p1 := hc2 1 _ rfl
        clear hc1 hc2 rd1 rd2 R1 R2
        have hne := fun w' => neqPair x y w'
        by_cases hxy : x = y
        · have hd : decide (x = y) = true := decide_eq_true hxy
          have HE := Lib.hid hxy; clear hxy
          go_wp2
          go_quiet (fail)
          go_wp2
          go_roundw
          case rel => exact ⟨n + 1, by go_num, by omega, eqTo_succ hok HX.out HY.out HE.out, below_drewN hB _⟩
          case measure => simp [intOf]; omega
        · have hd : decide (x = y) = false := decide_eq_false hxy
          have HE := Lib.hid hxy; clear hxy
          go_wp2
          go_quiet (fail)
          go_wp2
          go_ret
          exact ⟨by rw [eqTo_bad HX.out HY.out HE.out]; rfl, below_drewN hB _⟩
      · obtain rfl : n = ys.length := by omega
        clear R1 R2
        go_wp2
        go_ret
        exact ⟨by rw [eqTo_all HL.out hok]; rfl, hB⟩
  · have hlb : ((xs.length : Int) != (ys.length : Int)) = true := by simp; omega
    have e : decide (xs = ys) = false := decide_eq_false fun h => hl (by rw [h])
    rw [e]
    clear r1 r2 e hl
    go_enter Try.func39, Try.ntmps39
    go_wp2
    go_ret
    exact ⟨rfl, Below.refl _ _⟩

set_option maxHeartbeats 2000000 in
/-- equalSpans: two rows are read and compared. -/
theorem equalSpans_any (v1 v2 : Value) (xs ys : List Span) (w : World) (h1 : Rd Span.cells 2 w v1 xs) (h2 : Rd Span.cells 2 w v2 ys) :
    Calls Try.prog 38 #[v1, v2] w fun e w' => e = .returned (.bool (decide (xs = ys))) ∧ Below w.heap.size w w' := by
  obtain ⟨n1, a1, c1, rfl, r1⟩ := h1
  obtain ⟨n2, a2, c2, rfl, r2⟩ := h2
  by_cases hl : xs.length = ys.length
  · have hlb : ((xs.length : Int) != (ys.length : Int)) = false := by rw [hl]; simp
    have hlc : ((ys.length : Int) != (ys.length : Int)) = false := by simp
    rw [hl] at hlb ⊢
    have HL := Lib.hid hl
    have m1 : xs.length ≤ ys.length := by omega
    have m2 : ys.length ≤ xs.length := by omega
    clear hl n1
    have R1 := Lib.hid r1
    have R2 := Lib.hid r2
    clear r1 r2
    go_enter Try.func38, Try.ntmps38
    go_wp2
    go_loopw [13] (fun i W => ∃ n : Nat, i = .int .i64 n ∧ n ≤ ys.length ∧ eqTo xs ys n ∧ Below w.heap.size w W) (fun i _ => ys.length - (intOf i).toNat)
    case atStart => exact ⟨0, rfl, by omega, eqTo_zero _ _, Below.refl _ _⟩
    case round =>
      obtain ⟨n, rfl, hnl, hok, hB⟩ := hrel
      by_cases hlt' : n < ys.length
      · obtain ⟨b1, o1, rfl, hb1, rd1⟩ := R1.out (by omega)
        obtain ⟨b2, o2, rfl, hb2, rd2⟩ := R2.out (by omega)
        have hx := List.getElem?_eq_getElem (show n < xs.length by omega)
        have hy := List.getElem?_eq_getElem (show n < ys.length by omega)
        generalize xs[n] = x at hx
        generalize ys[n] = y at hy
        have hc1 : ∀ j u, x.cells[j]? = some u → wr.cell? ⟨b1, o1 + n * 2 + j, none⟩ = some u := fun j u hu => (hB.cell (p := ⟨b1, _, none⟩) hb1).trans (rd1 n x hx j u hu)
        have hc2 : ∀ j u, y.cells[j]? = some u → wr.cell? ⟨b2, o2 + n * 2 + j, none⟩ = some u := fun j u hu => (hB.cell (p := ⟨b2, _, none⟩) hb2).trans (rd2 n y hy j u hu)
        have HX := Lib.hid hx; clear hx
        have HY := Lib.hid hy; clear hy
        have q0 : wr.cell? ⟨b1, o1 + n * 2, none⟩ = some (.int .i64 x.from_) := hc1 0 _ rfl
        have q1 := hc1 1 _ rfl
        have p0 : wr.cell? ⟨b2, o2 + n * 2, none⟩ = some (.int .i64 y.from_) := hc2 0 _ rfl
        have p1 := hc2 1 _ rfl
        clear hc1 hc2 rd1 rd2 R1 R2
        have hne := fun w' => neqSpan x y w'
        by_cases hxy : x = y
        · have hd : decide (x = y) = true := decide_eq_true hxy
          have HE := Lib.hid hxy; clear hxy
          go_wp2
          go_quiet (fail)
          go_wp2
          go_roundw
          case rel => exact ⟨n + 1, by go_num, by omega, eqTo_succ hok HX.out HY.out HE.out, below_drewN hB _⟩
          case measure => simp [intOf]; omega
        · have hd : decide (x = y) = false := decide_eq_false hxy
          have HE := Lib.hid hxy; clear hxy
          go_wp2
          go_quiet (fail)
          go_wp2
          go_ret
          exact ⟨by rw [eqTo_bad HX.out HY.out HE.out]; rfl, below_drewN hB _⟩
      · obtain rfl : n = ys.length := by omega
        clear R1 R2
        go_wp2
        go_ret
        exact ⟨by rw [eqTo_all HL.out hok]; rfl, hB⟩
  · have hlb : ((xs.length : Int) != (ys.length : Int)) = true := by simp; omega
    have e : decide (xs = ys) = false := decide_eq_false fun h => hl (by rw [h])
    rw [e]
    clear r1 r2 e hl
    go_enter Try.func38, Try.ntmps38
    go_wp2
    go_ret
    exact ⟨rfl, Below.refl _ _⟩

set_option maxHeartbeats 2000000 in
/-- equalLives: two rows are read and compared. -/
theorem equalLives_any (v1 v2 : Value) (xs ys : List Life) (w : World) (h1 : Rd Life.cells 4 w v1 xs) (h2 : Rd Life.cells 4 w v2 ys) :
    Calls Try.prog 41 #[v1, v2] w fun e w' => e = .returned (.bool (decide (xs = ys))) ∧ Below w.heap.size w w' := by
  obtain ⟨n1, a1, c1, rfl, r1⟩ := h1
  obtain ⟨n2, a2, c2, rfl, r2⟩ := h2
  by_cases hl : xs.length = ys.length
  · have hlb : ((xs.length : Int) != (ys.length : Int)) = false := by rw [hl]; simp
    have hlc : ((ys.length : Int) != (ys.length : Int)) = false := by simp
    rw [hl] at hlb ⊢
    have HL := Lib.hid hl
    have m1 : xs.length ≤ ys.length := by omega
    have m2 : ys.length ≤ xs.length := by omega
    clear hl n1
    have R1 := Lib.hid r1
    have R2 := Lib.hid r2
    clear r1 r2
    go_enter Try.func41, Try.ntmps41
    go_wp2
    go_loopw [13] (fun i W => ∃ n : Nat, i = .int .i64 n ∧ n ≤ ys.length ∧ eqTo xs ys n ∧ Below w.heap.size w W) (fun i _ => ys.length - (intOf i).toNat)
    case atStart => exact ⟨0, rfl, by omega, eqTo_zero _ _, Below.refl _ _⟩
    case round =>
      obtain ⟨n, rfl, hnl, hok, hB⟩ := hrel
      by_cases hlt' : n < ys.length
      · obtain ⟨b1, o1, rfl, hb1, rd1⟩ := R1.out (by omega)
        obtain ⟨b2, o2, rfl, hb2, rd2⟩ := R2.out (by omega)
        have hx := List.getElem?_eq_getElem (show n < xs.length by omega)
        have hy := List.getElem?_eq_getElem (show n < ys.length by omega)
        generalize xs[n] = x at hx
        generalize ys[n] = y at hy
        have hc1 : ∀ j u, x.cells[j]? = some u → wr.cell? ⟨b1, o1 + n * 4 + j, none⟩ = some u := fun j u hu => (hB.cell (p := ⟨b1, _, none⟩) hb1).trans (rd1 n x hx j u hu)
        have hc2 : ∀ j u, y.cells[j]? = some u → wr.cell? ⟨b2, o2 + n * 4 + j, none⟩ = some u := fun j u hu => (hB.cell (p := ⟨b2, _, none⟩) hb2).trans (rd2 n y hy j u hu)
        have HX := Lib.hid hx; clear hx
        have HY := Lib.hid hy; clear hy
        have q0 : wr.cell? ⟨b1, o1 + n * 4, none⟩ = some (.int .i64 x.from_) := hc1 0 _ rfl
        have q1 := hc1 1 _ rfl
        have q2 := hc1 2 _ rfl
        have q3 := hc1 3 _ rfl
        have p0 : wr.cell? ⟨b2, o2 + n * 4, none⟩ = some (.int .i64 y.from_) := hc2 0 _ rfl
        have p1 := hc2 1 _ rfl
        have p2 := hc2 2 _ rfl
        have p3 := hc2 3 _ rfl
        clear hc1 hc2 rd1 rd2 R1 R2
        have hne := fun w' => neqLife x y w'
        by_cases hxy : x = y
        · have hd : decide (x = y) = true := decide_eq_true hxy
          have HE := Lib.hid hxy; clear hxy
          go_wp2
          go_quiet (fail)
          go_wp2
          go_roundw
          case rel => exact ⟨n + 1, by go_num, by omega, eqTo_succ hok HX.out HY.out HE.out, below_drewN hB _⟩
          case measure => simp [intOf]; omega
        · have hd : decide (x = y) = false := decide_eq_false hxy
          have HE := Lib.hid hxy; clear hxy
          go_wp2
          go_quiet (fail)
          go_wp2
          go_ret
          exact ⟨by rw [eqTo_bad HX.out HY.out HE.out]; rfl, below_drewN hB _⟩
      · obtain rfl : n = ys.length := by omega
        clear R1 R2
        go_wp2
        go_ret
        exact ⟨by rw [eqTo_all HL.out hok]; rfl, hB⟩
  · have hlb : ((xs.length : Int) != (ys.length : Int)) = true := by simp; omega
    have e : decide (xs = ys) = false := decide_eq_false fun h => hl (by rw [h])
    rw [e]
    clear r1 r2 e hl
    go_enter Try.func41, Try.ntmps41
    go_wp2
    go_ret
    exact ⟨rfl, Below.refl _ _⟩

end Go.Proofs.Ytkoeplbkeboklaa
/- retro.At: what it returns. -/
set_option linter.unusedVariables false
set_option linter.unusedSimpArgs false
namespace Go.Proofs.Ytkoeplbkeboklaa
open Go.RowKit
set_option maxHeartbeats 1000000 in
theorem at_any (k : Int) (v : Value) (l : List Step) (t : Int) (w : World) (hr : Rd Step.cells 4 w v l) :
    Calls Try.prog 29 #[.agg #[.int .i64 k, v], .int .i64 t] w fun e w' => ∃ v, e = .returned (.tuple #[v, .int .i64 (atP k l t).2]) ∧ Win Pair.cells 2 60 w' v (fun i => w.heap.size ≤ i) (atP k l t).1 ∧ Below w.heap.size w w' := by
  obtain ⟨a, c, rfl⟩ : ∃ a c, v = .slice a l.length c := by obtain ⟨_, a, c, rfl, _⟩ := hr; exact ⟨a, c, rfl⟩
  have HR := Lib.hid hr
  clear hr
  cases hi : isLineP k l with
  | false =>
    have hat : atP k l t = ([], 2) := by simp [atP, hi]
    rw [hat]
    have hcon := (isLine_any k _ l _ (HR.out.below ((Below.refl w.heap.size w).alloc (Nat.le_refl _) (.cells #[.int .i64 k, .slice a l.length c] 25))))
    rw [hi] at hcon
    have HC := Lib.hid hcon
    clear hat hi hcon
    go_enter Try.func29, Try.ntmps29
    go_wp2_with (go_at_call 54; refine HC.out.mono ?_; rintro e w1 ⟨rfl, hb1⟩)
    go_ret2
    exact ⟨_, rfl, winC_nil _ _ _ _, ((Below.refl w.heap.size w).alloc (Nat.le_refl _) _).trans (hb1.mono (by simp))⟩
  | true =>
    have hat : atP k l t = (thereP k l t, 0) := by simp [atP, hi]
    rw [hat]
    have hcon := (isLine_any k _ l _ (HR.out.below ((Below.refl w.heap.size w).alloc (Nat.le_refl _) (.cells #[.int .i64 k, .slice a l.length c] 25))))
    rw [hi] at hcon
    have HC := Lib.hid hcon
    have hlen : l.length ≤ 100000 := by have := (isLineP_spec hi).2.2.1; omega
    clear hat hi hcon
    have hbx : ∀ o, Below w.heap.size w (w.alloc o) := fun o => (Below.refl w.heap.size w).alloc (Nat.le_refl _) o
    have HB := Lib.hid hbx
    clear hbx
    go_enter Try.func29, Try.ntmps29
    go_wp2_with (first | (go_at_call 54; refine HC.out.mono ?_; rintro e w1 ⟨rfl, hb1⟩; have c0 := below_cell hb1 (World.cell?_alloc_new w #[.int .i64 k, .slice a l.length c] 25 0); have c1 := below_cell hb1 (World.cell?_alloc_new w #[.int .i64 k, .slice a l.length c] 25 1)) | (go_at_call 71; refine (there_any k _ l t _ (HR.out.below ((HB.out _).trans (hb1.mono (by simp)))) hlen).mono ?_; rintro e w2 ⟨v2, rfl, hw2, hb2⟩))
    go_ret2
    have hb0 : Below w.heap.size w w1 := (HB.out _).trans (hb1.mono (by simp))
    exact ⟨_, rfl, winC_mono hw2 fun i hi => Nat.le_trans hb0.size hi, hb0.trans (hb2.mono hb0.size)⟩

end Go.Proofs.Ytkoeplbkeboklaa
