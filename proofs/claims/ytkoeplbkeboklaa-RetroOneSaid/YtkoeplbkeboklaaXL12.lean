/- The law RetroOne: its literals, slices.DeleteFunc at pairs. -/
import Derived.Test.YtkoeplbkeboklaaXL6
import Derived.Test.YtkoeplbkeboklaaXL8
import Derived.Test.YtkoeplbkeboklaaM8
set_option linter.unusedVariables false
set_option linter.unusedSimpArgs false
namespace Go.Proofs.Ytkoeplbkeboklaa
open Go.RowKit
theorem inOne_any (f t at_ : Int) (T : Nat) (w : World) (hc : w.cell? ⟨T, 0, none⟩ = some (.int .i64 at_)) : Calls Try.prog 48 #[.agg #[.int .i64 f, .int .i64 t], .pointer (some ⟨T, 0, none⟩)] w fun e w' => e = .returned (.bool (decide (f ≤ at_) && decide (at_ ≤ t))) ∧ Below w.heap.size w w' := by
  have hb := fun o => (Below.refl w.heap.size w).alloc (Nat.le_refl _) o
  have e0 := fun o => below_cell (hb o) hc
  have HB := Lib.hid hb
  clear hb
  by_cases h1 : f ≤ at_ <;> by_cases h2 : at_ ≤ t <;> (go_enter Try.func48, Try.ntmps48; go_wp2; go_ret; exact ⟨ret_bool (by simp [h1, h2]), HB.out _⟩)
theorem keyIs_any (kx vx key : Int) (T : Nat) (w : World) (hc : w.cell? ⟨T, 2, none⟩ = some (.int .i64 key)) : Calls Try.prog 50 #[.agg #[.int .i64 kx, .int .i64 vx], .pointer (some ⟨T, 0, none⟩)] w fun e w' => e = .returned (.bool (kx == key)) ∧ Below w.heap.size w w' := by
  have hb := fun o => (Below.refl w.heap.size w).alloc (Nat.le_refl _) o
  have e0 := fun o => below_cell (hb o) hc
  have HB := Lib.hid hb
  clear hb
  go_enter Try.func50, Try.ntmps50
  go_wp2
  go_ret
  exact ⟨rfl, HB.out _⟩
theorem idxFrom_low {α : Type} (p : α → Bool) : ∀ (l : List α) (m : Nat), idxFrom p l m = -1 ∨ (m : Int) ≤ idxFrom p l m
  | [], _ => .inl rfl
  | x :: l, m => by
    by_cases hp : p x = true
    · right; simp [idxFrom, hp]
    · rw [idxFrom, if_neg hp]
      rcases idxFrom_low p l (m + 1) with h | h
      · exact .inl h
      · right; omega
theorem filter_none {α : Type} {p : α → Bool} : ∀ {l : List α} {n : Nat}, idxFrom p l n = -1 → l.filter (fun x => !p x) = l
  | [], _, _ => rfl
  | x :: l, n, h => by
    by_cases hp : p x = true
    · simp [idxFrom, hp] at h
    · simp [idxFrom, hp] at h
      simp [hp, filter_none h]
theorem filter_first {α : Type} {p : α → Bool} : ∀ {l : List α} {n i : Nat}, idxFrom p l n = (i : Int) → n ≤ i → i - n < l.length ∧ (l.take (i - n + 1)).filter (fun x => !p x) = l.take (i - n)
  | [], n, i, h, _ => by simp [idxFrom] at h
  | x :: l, n, i, h, hn => by
    by_cases hp : p x = true
    · simp [idxFrom, hp] at h
      obtain rfl : n = i := by omega
      simp [hp]
    · simp [idxFrom, hp] at h
      by_cases hi : n = i
      · subst hi
        exfalso
        rcases idxFrom_low p l (n + 1) with h' | h' <;> omega
      · obtain ⟨h1, h2⟩ := filter_first (l := l) (n := n + 1) (i := i) h (by omega)
        obtain ⟨m, hm⟩ : ∃ m, i - n = m + 1 := ⟨i - n - 1, by omega⟩
        rw [show i - (n + 1) = m by omega] at h1 h2
        rw [hm]
        refine ⟨by simp; omega, ?_⟩
        rw [List.take_succ_cons, List.filter_cons, if_pos (by simp [hp]), h2, List.take_succ_cons]
theorem winC_pair {w : World} {b off n c : Nat} {S : Nat → Prop} {xs : List Pair} (h : Win Pair.cells 2 60 w (.slice (some ⟨b, off, none⟩) n c) S xs) (hn : xs.length = n) {i : Nat} (hi : i < xs.length) (y : Pair) :
    Win Pair.cells 2 60 ((w.setCell ⟨b, off + i * 2, none⟩ (.int .i64 y.key)).setCell ⟨b, off + i * 2 + 1, none⟩ (.int .i64 y.val)) (.slice (some ⟨b, off, none⟩) n c) S (xs.set i y) := by
  have hx := List.getElem?_eq_getElem hi
  generalize xs[i] = x at hx
  have h1 := (win_set pair_len h hn (y := ⟨y.key, x.val⟩) (u := .int .i64 y.key) (r := 0) hx (by decide) rfl).1
  have hx2 : (xs.set i ⟨y.key, x.val⟩)[i]? = some ⟨y.key, x.val⟩ := by simp [List.getElem?_set, hi]
  have h2 := (win_set pair_len h1 (by rw [List.length_set]; exact hn) (y := y) (u := .int .i64 y.val) (r := 1) hx2 (by decide) rfl).1
  rw [List.set_set] at h2
  exact h2
theorem set_front {ys l : List Pair} {i j : Nat} {x : Pair} (hij : i < j) (hd : ys.drop j = l.drop j) (hl : ys.length = l.length) (hx : l[j]? = some x) {g : List Pair} (ht : ys.take i = g) : (ys.set i x).take (i + 1) = g ++ [x] ∧ (ys.set i x).drop (j + 1) = l.drop (j + 1) ∧ (ys.set i x).length = l.length := by
  have hjl := (List.getElem?_eq_some_iff.1 hx).1
  refine ⟨?_, ?_, by simp [hl]⟩
  · rw [List.take_add_one, List.take_set_of_le (by omega), ht]
    simp [List.getElem?_set, show i < ys.length by omega]
  · rw [List.drop_set, if_pos (by omega)]
    have := congrArg (List.drop 1) hd
    rwa [List.drop_drop, List.drop_drop] at this
theorem zero_pair (w : World) : (zeroValue 60).run Try.prog w = .ok (.agg #[.int .i64 0, .int .i64 0]) w := by kernel_rfl
set_option maxHeartbeats 4000000 in
theorem delPairs_any (G : FuncId) (q : Value) (p : Pair → Bool) (v : Value) (xs : List Pair) (S : Nat → Prop) (w : World) (hw : Win Pair.cells 2 60 w v S xs) (hl : xs.length ≤ 100000) (he : ∀ args w, (callFunc G args).run Try.prog w = .ok (.enter G args) w)
    (hp : ∀ W x, Fr (fun i => some i = v.ownBlock) w W → Calls Try.prog G #[.agg #[.int .i64 x.key, .int .i64 x.val], q] W fun e w' => e = .returned (.bool (p x)) ∧ Below W.heap.size W w') :
    Calls Try.prog 52 #[v, .func (.func G) #[] #[q]] w fun e w' => ∃ v', e = .returned v' ∧ Rd Pair.cells 2 w' v' (xs.filter fun x => !p x) ∧ (∀ i, some i = v'.ownBlock → some i = v.ownBlock) ∧ Fr (fun i => some i = v.ownBlock) w w' := by
  have hrd := win_rd pair_len hw
  have HI := Lib.hid (pairs_idx G q p v xs w hrd he fun W x _ hW => hp W x (fr_of_below hW))
  obtain ⟨a, c, rfl, hnc, hcm⟩ := winC_slice hw
  rcases idxFrom_low p xs 0 with hi | hi
  · have hf := filter_none hi
    rw [hi] at HI
    rw [hf]
    have HX := Lib.hid hrd
    clear hf hi hw hrd hp he
    go_enter Try.func52, Try.ntmps52
    go_wp2_with (go_at_call 78; refine HI.out.mono ?_; rintro e w2 ⟨rfl, hb2⟩)
    go_ret
    exact ⟨_, rfl, HX.out.below hb2, fun _ h => h, fr_of_below hb2⟩
  · obtain ⟨k, hk⟩ : ∃ k : Nat, idxFrom p xs 0 = (k : Int) := ⟨(idxFrom p xs 0).toNat, by omega⟩
    obtain ⟨hkl, hkf⟩ := filter_first hk (Nat.zero_le _)
    rw [Nat.sub_zero] at hkl hkf
    rw [hk] at HI
    have hk1 : ¬ ((k : Int) = -1) := by omega
    have hk2 : ((k : Int) == -1) = false := by simp
    have hwr1 : IntKind.i64.wrap ((k : Int) + 1) = (k : Int) + 1 := Go.IntWalk.i64_in _ (by omega)
    have HX := Lib.hid (And.intro hw hkf)
    have HP := Lib.hid hp
    clear hw hkf hrd hp hi hk
    go_enter Try.func52, Try.ntmps52
    go_wp2_with (go_at_call 78; refine HI.out.mono ?_; rintro e w2 ⟨rfl, hb2⟩)
    go_loopw [6, 5] (fun j i W => ∃ (m n : Nat) (ys : List Pair), j = .int .i64 m ∧ i = .int .i64 n ∧ n < m ∧ m ≤ xs.length ∧ ys.length = xs.length ∧ ys.take n = (xs.take m).filter (fun x => !p x) ∧ ys.drop m = xs.drop m ∧ Win Pair.cells 2 60 W (.slice a xs.length c) S ys ∧ Fr (fun i => some i = (Value.slice a xs.length c).ownBlock) w W) (fun j _ _ => xs.length - (intOf j).toNat)
    case atStart => exact ⟨k + 1, k, xs, by go_num, rfl, by omega, by omega, rfl, HX.out.2.symm, rfl, winC_move HX.out.1 (fr_of_below (S := fun _ => False) hb2) (fun _ _ h => h), fr_of_below hb2⟩
    case round =>
      obtain ⟨m, n, ys, rfl, rfl, hnm, hml, hyl, hyt, hyd, hw, hF⟩ := hrel
      by_cases hlt : m < xs.length
      · have hx := List.getElem?_eq_getElem hlt
        generalize xs[m] = x at hx
        have hy : ys[m]? = some x := by
          have := congrArg (fun l => l[0]?) hyd
          simpa [hx] using this
        obtain ⟨b, off, hav, hbl, hc⟩ := rd_at (win_rd pair_len hw) hy
        subst hav
        have q0 : wr.cell? ⟨b, off + m * 2, none⟩ = some (.int .i64 x.key) := hc 0 _ rfl
        have q1 := hc 1 _ rfl
        have hy2 := List.getElem?_eq_getElem (show n < ys.length by omega)
        have hsf := set_front hnm hyd hyl hx hyt
        have hft : (xs.take (m + 1)).filter (fun x => !p x) = (xs.take m).filter (fun x => !p x) ++ (if p x then [] else [x]) := by
          rw [List.take_add_one, hx, List.filter_append]
          cases hpx : p x <;> simp [hpx]
        have hwr2 : IntKind.i64.wrap ((m : Int) + 1) = (m : Int) + 1 := Go.IntWalk.i64_in _ (by omega)
        have hwr3 : IntKind.i64.wrap ((n : Int) + 1) = (n : Int) + 1 := Go.IntWalk.i64_in _ (by omega)
        have hbs : b < wr.heap.size := hbl
        have hF2 : Fr (fun i => some i = (Value.slice (some ⟨b, off, none⟩) xs.length c).ownBlock) w (wr.alloc (.cells #[.int .i64 x.key, .int .i64 x.val] 60)) := fr_trans hF (fr_alloc _ wr _) fun _ _ h => h
        have hw2 := winC_move hw (fr_alloc (fun _ => False) wr (.cells #[.int .i64 x.key, .int .i64 x.val] 60)) (fun _ _ h => h)
        have HY := Lib.hid (And.intro hF2 (And.intro hw2 (And.intro hft (And.intro hsf (And.intro hyt (And.intro hyd hyl))))))
        have HC := Lib.hid (HP.out _ x hF2)
        clear hx hy hc hw hF hF2 hw2 hft hsf hyt hyd hbl
        cases hpx : p x with
        | true =>
          rw [hpx] at HC HY
          clear hpx hy2
          go_wp2_with (refine (HC.out).mono ?_; rintro e w2 ⟨rfl, hb2⟩)
          go_roundw
          case rel =>
           exact ⟨m + 1, n, ys, by go_num, rfl, by omega, by omega, hyl, by rw [HY.out.2.2.1]; simpa using HY.out.2.2.2.2.1, (by have := congrArg (List.drop 1) HY.out.2.2.2.2.2.1; rwa [List.drop_drop, List.drop_drop] at this), winC_move HY.out.2.1 (fr_of_below (S := fun _ => False) hb2) (fun _ _ h => h), fr_trans HY.out.1 (fr_of_below hb2) fun _ _ h => h⟩
          case measure => simp [intOf]; omega
        | false =>
          rw [hpx] at HC HY
          clear hpx
          generalize ys[n] = y at hy2
          have hnx : off + n * 2 = off + n * 2 := rfl
          go_wp2_with fail
          refine (HC.out).mono ?_
          rintro e w2 ⟨rfl, hb2⟩
          have z0 : w2.cell? ⟨wr.heap.size, 0, none⟩ = some (.int .i64 x.key) := below_cell hb2 (box_at wr _ _ 0)
          have z1 : w2.cell? ⟨wr.heap.size, 1, none⟩ = some (.int .i64 x.val) := below_cell hb2 (box_at wr _ _ 1)
          have hw3 := winC_move HY.out.2.1 (fr_of_below (S := fun _ => False) hb2) (fun _ _ h => h)
          have t0 := win_set pair_len hw3 HY.out.2.2.2.2.2.2 (y := ⟨x.key, y.val⟩) (u := .int .i64 x.key) (r := 0) hy2 (by decide) rfl
          have t1 := win_set pair_len hw3 HY.out.2.2.2.2.2.2 (y := ⟨y.key, x.val⟩) (u := .int .i64 x.val) (r := 1) hy2 (by decide) rfl
          have f0 := t0.2.2
          have f1 := t1.2.2
          obtain ⟨g0, h0⟩ := Option.isSome_iff_exists.1 t0.2.1
          obtain ⟨g1, h1⟩ := Option.isSome_iff_exists.1 t1.2.1
          rw [Nat.add_zero] at f0 h0
          have HW := Lib.hid (And.intro (winC_pair (i := n) hw3 HY.out.2.2.2.2.2.2 (by have := HY.out.2.2.2.2.2.2; omega) x) hb2)
          clear t0 t1 hw3 hb2
          go_wp2
          go_roundw
          case rel => 
            have hs := HY.out.2.2.2.1
            exact ⟨m + 1, n + 1, ys.set n x, by go_num, by go_num, by omega, by omega, hs.2.2, by rw [HY.out.2.2.1]; simpa using hs.1, hs.2.1, HW.out.1, fr_trans (fr_trans HY.out.1 (fr_of_below HW.out.2) fun _ _ h => h) (fr_trans (fr_setCell w2 ⟨b, off + n * 2, none⟩ (.int .i64 x.key)) (fr_setCell _ ⟨b, off + n * 2 + 1, none⟩ (.int .i64 x.val)) fun _ _ h => h) fun i _ h => by have h2 : i = b := h; rw [h2]; rfl⟩
          case measure => simp [intOf]; omega
      · obtain rfl : m = xs.length := by omega
        rw [List.take_length] at hyt
        obtain ⟨g, off, cur, rfl, hS, hg, hnc', hcm', hcs, ht⟩ : ∃ g off cur, a = some ⟨g, off, none⟩ ∧ S g ∧ wr.heap[g]? = some (.cells cur 60 (0, 0)) ∧ xs.length ≤ c ∧ c ≤ maxLen ∧ off + c * 2 ≤ cur.size ∧ (cur.toList.drop off).take (xs.length * 2) = ys.flatMap Pair.cells := by
          rcases hw.2 with ⟨h1, h2⟩ | ⟨g', off', cap, cur, hv, hS, hg, h1, h2, h3, h4⟩
          · have h6 : ys = [] := by simpa using h2
            rw [h6] at hyl
            simp at hyl; omega
          · injection hv with e1 e2 e3
            rw [hyl] at h4
            exact ⟨g', off', cur, e1, hS, hg, by omega, by omega, by omega, h4⟩
        have hcl := fun ty => run_clear_k (P := Try.prog) wr 49 ty 60 _ Try.underlying49 zero_pair (by simp [Value.cells, Value.oneCell']) g (off + n * 2) (xs.length - n) (c - n) cur hg (by omega) (by simp [Value.cells]; omega)
        have HCL := Lib.hid (And.intro hS (And.intro hg (And.intro hcs (And.intro ht (And.intro hyt hF)))))
        have n1 : (n : Int) ≤ (xs.length : Int) := by omega
        have n2 : (xs.length : Int) ≤ (c : Int) := by omega
        have n3 : (n : Int) ≤ (c : Int) := by omega
        have n4 : ¬ ((n : Int) = (c : Int)) := by omega
        clear hw hS hg hcs ht hyt hyd hF
        go_wp2
        go_ret
        have hyl2 : (ys.take n).length = n := by rw [List.length_take]; omega
        refine ⟨.slice (some ⟨g, off, none⟩) n c, rfl, ?_, fun _ h => h, fr_trans HCL.out.2.2.2.2.2 (fr_setRow _ _ _) fun i _ h => by have h2 : i = g := h; rw [h2]; rfl⟩
        rw [← HCL.out.2.2.2.2.1]
        refine win_rd pair_len (S := S) (e := 60) ⟨by rw [flat_len pair_len], .inr ⟨g, off, c, _, by rw [hyl2], HCL.out.1, setRow_at HCL.out.2.1, by omega, hcm', ?_, ?_⟩⟩
        · have := HCL.out.2.2.1
          rw [spl_size (by simp [size_zeroCells]; omega)]
          exact this
        · have := HCL.out.2.2.1
          rw [spl_list, hyl2, List.append_assoc, List.drop_append_of_le_length (by rw [List.length_take, Array.length_toList]; omega), List.drop_take, List.take_append_of_le_length (by rw [List.length_take, List.length_drop, Array.length_toList]; omega), show off + n * 2 - off = n * 2 by omega, List.take_take, Nat.min_self, flat_take pair_len, ← HCL.out.2.2.2.1, List.take_take, Nat.min_eq_left (by omega)]
end Go.Proofs.Ytkoeplbkeboklaa
