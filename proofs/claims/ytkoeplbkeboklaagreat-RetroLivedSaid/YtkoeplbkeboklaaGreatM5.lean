/- My texts of layer 14, joined: R30, P12, R31, R32, R21, R22, R23, R20, R33. -/
import Derived.Test.YtkoeplbkeboklaaGreatM4
import Derived.Lib.AppendZerosOnto
/- slices.Insert of one step, into a list of the call's own. -/
set_option linter.unusedVariables false
set_option linter.unusedSimpArgs false
namespace Go.Proofs.YtkoeplbkeboklaaGreat
open Go.RowKit
theorem ins_room {L Y V : List Value} {off n i : Nat} (hi : i ≤ n) (hL : off + (n + 1) * 4 ≤ L.length) (hY : Y.length = (n - i) * 4) (hV : V.length = 4) (r : List Value) :
    (((L.take (off + (i + 1) * 4) ++ Y ++ r).take (off + i * 4) ++ V ++ (L.take (off + (i + 1) * 4) ++ Y ++ r).drop (off + i * 4 + V.length)).drop off).take ((n + 1) * 4) = (L.drop off).take (i * 4) ++ V ++ Y := by
  have hlen : (L.take (off + (i + 1) * 4)).length = off + (i + 1) * 4 := by rw [List.length_take]; omega
  have h1 : (L.take (off + (i + 1) * 4) ++ Y ++ r).take (off + i * 4) = L.take (off + i * 4) := by
    rw [List.append_assoc, List.take_append_of_le_length (by omega), List.take_take, Nat.min_eq_left (by omega)]
  have h2 : (L.take (off + (i + 1) * 4) ++ Y ++ r).drop (off + i * 4 + V.length) = Y ++ r := by
    rw [List.append_assoc, show off + i * 4 + V.length = (L.take (off + (i + 1) * 4)).length by omega, List.drop_left]
  have h3 : (L.take (off + i * 4)).drop off = (L.drop off).take (i * 4) := by rw [List.drop_take]; congr 1; omega
  rw [h1, h2, List.append_assoc, List.drop_append_of_le_length (by rw [List.length_take]; omega), h3, ← List.append_assoc V, ← List.append_assoc, ← List.append_assoc]
  have h4 : (n + 1) * 4 = ((L.drop off).take (i * 4) ++ V ++ Y).length := by simp only [List.length_append, List.length_take, List.length_drop, hY, hV]; omega
  rw [h4]
  exact List.take_left
theorem ins_new {X Y V Z : List Value} {n i : Nat} (hi : i ≤ n) (hX : X.length = i * 4) (hY : Y.length = (n - i) * 4) (hV : V.length = 4) (r : List Value) (q : Nat) :
    ((((X ++ Z).take (i * 4) ++ V ++ (X ++ Z).drop q).take ((i + 1) * 4) ++ Y ++ r).drop 0).take ((n + 1) * 4) = X ++ V ++ Y := by
  have h1 : (X ++ Z).take (i * 4) = X := by rw [← hX]; exact List.take_left
  have h2 : (X ++ V ++ (X ++ Z).drop q).take ((i + 1) * 4) = X ++ V := by
    rw [show (i + 1) * 4 = (X ++ V).length by rw [List.length_append]; omega]; exact List.take_left
  rw [h1, h2, List.drop_zero, show (n + 1) * 4 = (X ++ V ++ Y).length by simp only [List.length_append]; omega]
  exact List.take_left
theorem ins_flat {l : List Step} {s : Step} {i : Nat} : (l.take i ++ s :: l.drop i).flatMap Step.cells = (l.take i).flatMap Step.cells ++ s.cells ++ (l.drop i).flatMap Step.cells := by
  rw [List.flatMap_append, List.flatMap_cons, List.append_assoc]
theorem win_open {w : World} {g off n c e : Nat} {S : Nat → Prop} {l : List Step} (hw : Win Step.cells 4 e w (.slice (some ⟨g, off, none⟩) n c) S l) (hn : l.length = n) :
    ∃ cur, S g ∧ w.heap[g]? = some (.cells cur e (0, 0)) ∧ n ≤ c ∧ c ≤ maxLen ∧ off + c * 4 ≤ cur.size ∧ (cur.toList.drop off).take (n * 4) = l.flatMap Step.cells := by
  rcases hw.2 with ⟨h1, _⟩ | ⟨g', off', cap, cur, hv, hS, hg, h1, h2, h3, h4⟩
  · simp at h1
  · injection hv with e1 e2 e3
    injection e1 with e1
    injection e1 with e1 e4
    subst e1; subst e4; subst e3
    rw [hn] at h1 h4
    exact ⟨cur, hS, hg, h1, h2, h3, h4⟩
theorem overlaps_apart (vb g o lb cb : Nat) (cv cg : Array Value) (w : World) (h1 : w.heap[vb]? = some (.cells cv 46 (0, 0))) (h2 : w.heap[g]? = some (.cells cg 46 (0, 0))) (hne : vb ≠ g) (h0 : cg.size ≠ 0) :
    (callFunc 60 #[.slice (some ⟨vb, 0, none⟩) 1 1, .slice (some ⟨g, o, none⟩) lb cb]).run Tryz.prog w = .ok (.value (.bool false)) w := by
  rw [run_callFunc_extern Tryz.func60 (by kernel_rfl) (by kernel_rfl) (by kernel_rfl) (e := Extern.SlicesOverlaps.overlaps #[23, 23] #[4]) (by kernel_rfl),
    Lib.run_overlaps_apart w 23 4 46 Tryz.underlying23 4 Tryz.sizeOf46 ⟨vb, 0, none⟩ ⟨g, o, none⟩ 1 1 lb cb hne 46 46 cv.size cg.size (by simp [World.shape?, h1]) (by simp [World.shape?, h2]) h0 (free_blk h1 _) (free_blk h1 _)]
  rfl
set_option maxHeartbeats 4000000 in
theorem insEnd_any (a : Option Addr) (c vb : Nat) (S : Nat → Prop) (l : List Step) (s : Step) (w : World) (hw : Win Step.cells 4 46 w (.slice a l.length c) S l) (hv : w.heap[vb]? = some (.cells s.cells.toArray 46 (0, 0))) (hl : l.length < 100000) :
    Calls Tryz.prog 40 #[.slice a l.length c, .int .i64 l.length, .slice (some ⟨vb, 0, none⟩) 1 1] w fun e w' => ∃ v, e = .returned v ∧ Win Step.cells 4 46 w' v (fun j => S j ∨ w.heap.size ≤ j) (l ++ [s]) ∧ Fr (fun j => some j = (Value.slice a l.length c).ownBlock) w w' := by
  have hrv : RdC 4 w (.slice (some ⟨vb, 0, none⟩) 1 1) 1 s.cells := ⟨rfl, step_one s, _, _, rfl, fun _ => ⟨vb, 0, rfl, (Array.getElem?_eq_some_iff.1 hv).1, fun j u hu => by rw [Nat.zero_add, cell_blk hv j]; simpa using hu⟩⟩
  obtain ⟨a', c', hav, hnc, _⟩ := winC_slice hw
  injection hav with h1 h2 h3
  subst h3
  clear hv h1 h2
  have HW := Lib.hid (And.intro hw hrv)
  clear hw hrv
  have k1 : (l.length : Int) ≤ (c : Int) := by omega
  by_cases hc : c = l.length
  · subst hc
    go_enter Tryz.func40, Tryz.ntmps40
    go_wp2_with (at_builtin; (refine wpList_append_rd w (by rfl) _ _ _ (by rfl) 46 4 32 _ Tryz.underlying23 info_step rfl (by decide) _ S l.length _ (by rfl) _ (by rfl) HW.out.1 1 _ HW.out.2 (by unfold maxLen; omega) (by omega) ?_); intro v2 w2 hwin2 hfr2 hsz2; obtain ⟨a2, c2, rfl, hn2, hm2⟩ := winC_slice hwin2)
    all_goals
      go_ret
      refine ⟨_, rfl, ?_, hfr2⟩
      refine (?_ : WinC _ _ _ _ _ _ _)
      rw [List.length_append, List.flatMap_append]
      exact winC_mono (by simpa using hwin2) fun i hi => by rcases hi with h | h; exact .inl h.1; exact .inr (by omega)

  · have hc2 : ¬ ((c : Int) = (l.length : Int)) := by omega
    go_enter Tryz.func40, Tryz.ntmps40
    go_wp2_with (at_builtin; (refine wpList_append_rd w (by rfl) _ _ _ (by rfl) 46 4 32 _ Tryz.underlying23 info_step rfl (by decide) _ S l.length _ (by rfl) _ (by rfl) HW.out.1 1 _ HW.out.2 (by unfold maxLen; omega) (by omega) ?_); intro v2 w2 hwin2 hfr2 hsz2; obtain ⟨a2, c2, rfl, hn2, hm2⟩ := winC_slice hwin2)
    all_goals
      go_ret
      refine ⟨_, rfl, ?_, hfr2⟩
      refine (?_ : WinC _ _ _ _ _ _ _)
      rw [List.length_append, List.flatMap_append]
      exact winC_mono (by simpa using hwin2) fun i hi => by rcases hi with h | h; exact .inl h.1; exact .inr (by omega)

set_option maxHeartbeats 4000000 in
theorem insMid_any (g off c vb n i : Nat) (S : Nat → Prop) (l : List Step) (s : Step) (w : World) (hw : Win Step.cells 4 46 w (.slice (some ⟨g, off, none⟩) n c) S l) (hn : l.length = n) (hv : w.heap[vb]? = some (.cells s.cells.toArray 46 (0, 0))) (hne : vb ≠ g) (hi : i < n) (hl : n < 100000) :
    Calls Tryz.prog 40 #[.slice (some ⟨g, off, none⟩) n c, .int .i64 i, .slice (some ⟨vb, 0, none⟩) 1 1] w fun e w' => ∃ v, e = .returned v ∧ Win Step.cells 4 46 w' v (fun j => S j ∨ w.heap.size ≤ j) (l.take i ++ s :: l.drop i) ∧ Fr (fun j => j = g) w w' := by
  obtain ⟨cur, hS, hg, hnc, hcm, hcs, ht⟩ := win_open hw hn
  have hrd : Rd Step.cells 4 w (.slice (some ⟨g, off, none⟩) n c) l := win_rd step_len hw
  obtain ⟨i0, hi0, hz⟩ := Option.map_eq_some_iff.1 info_step
  simp only [Prod.mk.injEq] at hz
  have HI := Lib.hid (And.intro hi0 hz)
  have hvw := (Array.getElem?_eq_some_iff.1 hv).1
  have hgw := (Array.getElem?_eq_some_iff.1 hg).1
  have hX : ((cur.toList.drop off).take (n * 4)).take (i * 4) = (l.take i).flatMap Step.cells := by rw [ht, flat_take step_len]
  rw [List.take_take, Nat.min_eq_left (by omega)] at hX
  have hXl : ((l.take i).flatMap Step.cells).length = i * 4 := by rw [flat_len step_len, List.length_take]; omega
  have hYl : ((l.drop i).flatMap Step.cells).length = (n - i) * 4 := by rw [flat_len step_len, List.length_drop]; omega
  have hVl : s.cells.length = 4 := rfl
  have hVr : ∀ W : World, W.heap[vb]? = some (.cells s.cells.toArray 46 (0, 0)) → RdC 4 W (.slice (some ⟨vb, 0, none⟩) 1 1) 1 s.cells := fun W hv => ⟨rfl, step_one s, _, _, rfl, fun _ => ⟨vb, 0, rfl, (Array.getElem?_eq_some_iff.1 hv).1, fun j u hu => by rw [Nat.zero_add, cell_blk hv j]; simpa using hu⟩⟩
  have hYr : ∀ c', RdC 4 w (.slice (some ⟨g, off + i * 4, none⟩) (n - i) c') (n - i) ((l.drop i).flatMap Step.cells) := fun c' => by
    have := rdC_cut step_len (by decide) step_one hrd i (n - i) (by omega) (off + i * 4) c' (fun _ => rfl)
    rwa [List.take_of_length_le (by rw [List.length_drop]; omega)] at this
  have hwl : (l.take i ++ s :: l.drop i).length = n + 1 := by simp only [List.length_append, List.length_take, List.length_cons, List.length_drop]; omega
  simp only [maxLen] at hcm
  have n1 : (i : Int) ≤ (n : Int) := by omega
  have n2 : ¬ ((i : Int) = (n : Int)) := by omega
  have n3 : (i : Int) ≤ (c : Int) := by omega
  have n4 : ¬ ((c : Int) = (i : Int)) := by omega
  have n4' : ¬ (c = i) := by omega
  have n5 : (i : Int) + 1 ≤ (n : Int) + 1 := by omega
  have n6 : (i : Int) ≤ (n : Int) + 1 := by omega
  have n7 : (0 : Int) ≤ (i : Int) + 1 := by omega
  have n8 : IntKind.i64.wrap ((i : Int) + 1) = (i : Int) + 1 := Go.IntWalk.i64_in _ (by omega)
  have n9 : IntKind.i64.wrap ((n : Int) + 1) = (n : Int) + 1 := Go.IntWalk.i64_in _ (by omega)
  by_cases hroom : n + 1 ≤ c
  · -- there is room
    have r1 : ¬ ((c : Int) < (n : Int) + 1) := by omega
    have r2 : (n : Int) + 1 ≤ (c : Int) := by omega
    have r3 : ¬ (c = i + 1) := by omega
    have r4 : ¬ ((c : Int) = (i : Int) + 1) := by omega
    have hov := fun lb cb => overlaps_apart vb g (off + (i + 1) * 4) lb cb _ cur w hv hg hne (by omega)
    have hcp1 := fun ty => run_copy_to (P := Tryz.prog) w.drew 23 23 ty 46 i0 4 Tryz.underlying23 hi0 hz.2.1 g (off + (i + 1) * 4) (n - i) (c - (i + 1)) cur 46 hg ⟨g, off + i * 4, none⟩ (n + 1 - i) (c - i) (c - i) _ (rdC_below (hYr (c - i)) (Below.refl _ _).drew) (by omega) (by omega)
    have hsz1 := spl_size (cur := cur) (o := off + (i + 1) * 4) (cs := (l.drop i).flatMap Step.cells) (by rw [hYl]; omega)
    have hW1 : (w.drew.setRow g (spl cur (off + (i + 1) * 4) ((l.drop i).flatMap Step.cells))).heap[g]? = some (.cells (spl cur (off + (i + 1) * 4) ((l.drop i).flatMap Step.cells)) 46 (0, 0)) := setRow_at (w := w.drew) hg
    have hF1 : Fr (fun j => j = g) w (w.drew.setRow g (spl cur (off + (i + 1) * 4) ((l.drop i).flatMap Step.cells))) := fr_trans (fr_of_below (Below.refl _ _).drew) (fr_setRow _ _ _) fun _ _ h => h
    have hlist := ins_room (L := cur.toList) (Y := (l.drop i).flatMap Step.cells) (V := s.cells) (off := off) (n := n) (i := i) (by omega) (by rw [Array.length_toList]; omega) hYl hVl (cur.toList.drop (off + (i + 1) * 4 + ((l.drop i).flatMap Step.cells).length))
    rw [← spl_list, ← spl_list, hX, ← ins_flat] at hlist
    generalize spl cur (off + (i + 1) * 4) ((l.drop i).flatMap Step.cells) = cur1 at *
    generalize w.drew.setRow g cur1 = W1 at *
    have hv1 := (hF1.block vb hvw hne).trans hv
    have hcp2 := fun ty => run_copy_k (P := Tryz.prog) W1 23 23 ty 46 i0 4 Tryz.underlying23 hi0 hz.2.1 g (off + i * 4) (n + 1 - i) (c - i) cur1 46 hW1 (.slice (some ⟨vb, 0, none⟩) 1 1) 1 s.cells (hVr W1 hv1) (by omega) (by omega)
    have hsz2 := spl_size (cur := cur1) (o := off + i * 4) (cs := s.cells) (by rw [hVl]; omega)
    have HZ := Lib.hid (And.intro hW1 (And.intro hF1 (And.intro hlist (And.intro hsz1 (And.intro hsz2 (And.intro hS (And.intro hcs hwl)))))))
    have H1 := Lib.hid hcp1
    have H2 := Lib.hid hcp2
    clear hcp1 hcp2 hW1 hF1 hlist hsz1 hsz2 hv1 hw hn hv hrd hX hXl hYl hVl hVr hYr hi0 hz hg ht hS hcs hwl
    go_enter Tryz.func40, Tryz.ntmps40
    go_wp2_with (simp only [hov])
    go_region_law (refine step_copy_run _ (by rfl) _ _ _ _ (by rfl) (.slice (some ⟨g, off + (i + 1) * 4, none⟩) (n - i) (c - (i + 1))) (.slice (some ⟨g, off + i * 4, none⟩) (n + 1 - i) (c - i)) (by go_simp <;> rfl) (by go_simp <;> rfl) (H1.out _) ?_)
    have hcp2 := H2.out
    obtain ⟨W2, hW2⟩ : ∃ W2, W1.setRow g (spl cur1 (off + i * 4) s.cells) = W2 := ⟨_, rfl⟩
    rw [hW2] at hcp2
    have HW2 := Lib.hid hW2
    clear hW2
    go_wp2
    go_ret
    rw [← HW2.out]
    refine ⟨_, rfl, ?_, fr_trans HZ.out.2.1 (fr_setRow _ _ _) fun _ _ h => h⟩
    refine ⟨by rw [flat_len step_len], .inr ⟨g, off, c, _, by rw [HZ.out.2.2.2.2.2.2.2]; rfl, .inl HZ.out.2.2.2.2.2.1, setRow_at HZ.out.1, by rw [HZ.out.2.2.2.2.2.2.2]; exact hroom, by unfold maxLen; omega, by rw [HZ.out.2.2.2.2.1, HZ.out.2.2.2.1]; exact HZ.out.2.2.2.2.2.2.1, by rw [HZ.out.2.2.2.2.2.2.2]; exact HZ.out.2.2.1⟩⟩
  · -- there is none: a new row
    obtain rfl : c = n := by omega
    have r1 : (c : Int) < (c : Int) + 1 := by omega
    have hX0 : RdC 4 w.drew (.slice (some ⟨g, off, none⟩) i c) i ((l.take i).flatMap Step.cells) := by
      have := rdC_below (rdC_cut step_len (by decide) step_one hrd 0 i (by omega) off c (by omega)) (Below.refl _ _).drew
      rwa [List.drop_zero] at this
    have hold := run_first_rd (P := Tryz.prog) w.drew 4 i _ _ hX0
    have hra := fun ty => Lib.run_append_grow_zeros (P := Tryz.prog) w 23 3 ty 46 i0 _ .i64 .i64 Tryz.underlying23 Tryz.underlying3 hi0 hz.1 (some ⟨g, off, none⟩) i c _ (by rw [hz.2.1]; exact hold) (c + 1 - i) (by omega) (by rw [hz.2.1]; omega) (by omega) (by omega) (by rw [hz.2.2]; omega) (by rw [hz.2.2]; exact growslice_fits (by omega) (by omega))
    have hint : ((c + 1 - i : Nat) : Int) = (c : Int) + 1 - (i : Int) := by omega
    have hin : i + (c + 1 - i) = c + 1 := by omega
    have n10 : IntKind.i64.wrap ((c : Int) + 1 - (i : Int)) = (c : Int) + 1 - (i : Int) := Go.IntWalk.i64_in _ (by omega)
    rw [hint, hin] at hra
    have hG := grownCap_ge w (c + 1) c 46
    have hGm := grownCap_le_maxLen w (c + 1) c 46 (by unfold maxLen; omega)
    generalize grownCap w (c + 1) c 46 = G at *
    simp only [maxLen] at hGm
    obtain ⟨Z, hZ⟩ : ∃ Z : List Value, (((l.take i).flatMap Step.cells).toArray ++ Builtin.zeroCells (Value.agg #[.int .i64 0, .int .i64 0, .int .i64 0, .int .i64 0]).cells (c + 1 - i) ++ Builtin.zeroCells (Value.agg #[.int .i64 0, .int .i64 0, .int .i64 0, .int .i64 0]).cells (G - (c + 1))) = ((l.take i).flatMap Step.cells ++ Z).toArray := ⟨(Builtin.zeroCells (Value.agg #[.int .i64 0, .int .i64 0, .int .i64 0, .int .i64 0]).cells (c + 1 - i)).toList ++ (Builtin.zeroCells (Value.agg #[.int .i64 0, .int .i64 0, .int .i64 0, .int .i64 0]).cells (G - (c + 1))).toList, by apply Array.toList_inj.1; simp⟩
    have hR : (((l.take i).flatMap Step.cells).toArray ++ Builtin.zeroCells (Value.agg #[.int .i64 0, .int .i64 0, .int .i64 0, .int .i64 0]).cells (c + 1 - i) ++ Builtin.zeroCells (Value.agg #[.int .i64 0, .int .i64 0, .int .i64 0, .int .i64 0]).cells (G - (c + 1))).size = G * 4 := by
      simp only [Array.size_append, size_zeroCells, List.size_toArray, hXl, Value.cells]
      simp
      omega
    rw [hZ] at hra hR
    have hW1 : (w.drew.alloc (.cells ((l.take i).flatMap Step.cells ++ Z).toArray 46)).heap[w.heap.size]? = some (.cells ((l.take i).flatMap Step.cells ++ Z).toArray 46 (0, 0)) := heap_alloc_new w.drew _
    have hb1 : Below w.heap.size w (w.drew.alloc (.cells ((l.take i).flatMap Step.cells ++ Z).toArray 46)) := (Below.refl _ _).drew.alloc (Nat.le_refl _) _
    generalize w.drew.alloc (.cells ((l.take i).flatMap Step.cells ++ Z).toArray 46) = W1 at *
    have hcp1 := fun ty => run_copy_k (P := Tryz.prog) W1 23 23 ty 46 i0 4 Tryz.underlying23 hi0 hz.2.1 w.heap.size (i * 4) (c + 1 - i) (G - i) _ 46 hW1 (.slice (some ⟨vb, 0, none⟩) 1 1) 1 s.cells (hVr W1 ((hb1.block vb hvw).trans hv)) (by omega) (by rw [hR]; omega)
    have hsz1 := spl_size (cur := ((l.take i).flatMap Step.cells ++ Z).toArray) (o := i * 4) (cs := s.cells) (by rw [hR, hVl]; omega)
    have hlist := ins_new (X := (l.take i).flatMap Step.cells) (Y := (l.drop i).flatMap Step.cells) (V := s.cells) (Z := Z) (n := c) (i := i) (by omega) hXl hYl hVl
    have hW2 : (W1.setRow w.heap.size (spl ((l.take i).flatMap Step.cells ++ Z).toArray (i * 4) s.cells)).heap[w.heap.size]? = some (.cells (spl ((l.take i).flatMap Step.cells ++ Z).toArray (i * 4) s.cells) 46 (0, 0)) := setRow_at hW1
    have hb2 : Below w.heap.size w (W1.setRow w.heap.size (spl ((l.take i).flatMap Step.cells ++ Z).toArray (i * 4) s.cells)) := hb1.trans (below_of_fr (fr_setRow _ _ _) hb1.size fun i h => Nat.le_of_eq h.symm)
    have hl2 : (spl ((l.take i).flatMap Step.cells ++ Z).toArray (i * 4) s.cells).toList = ((l.take i).flatMap Step.cells ++ Z).take (i * 4) ++ s.cells ++ ((l.take i).flatMap Step.cells ++ Z).drop (i * 4 + s.cells.length) := spl_list _ _ _
    generalize spl ((l.take i).flatMap Step.cells ++ Z).toArray (i * 4) s.cells = R1 at *
    generalize W1.setRow w.heap.size R1 = W2 at *
    have hcp2 := fun ty => run_copy_k (P := Tryz.prog) W2.drew 23 23 ty 46 i0 4 Tryz.underlying23 hi0 hz.2.1 w.heap.size ((i + 1) * 4) (c - i) (G - (i + 1)) R1 46 hW2 (.slice (some ⟨g, off + i * 4, none⟩) (c - i) (c - i)) (c - i) _ (rdC_below (hYr (c - i)) hb2.drew) (by omega) (by rw [hsz1, hR]; omega)
    have hsz2 := spl_size (cur := R1) (o := (i + 1) * 4) (cs := (l.drop i).flatMap Step.cells) (by rw [hsz1, hR, hYl]; omega)
    have hlist2 := hlist (R1.toList.drop ((i + 1) * 4 + ((l.drop i).flatMap Step.cells).length)) (i * 4 + s.cells.length)
    rw [← hl2, ← spl_list, ← ins_flat] at hlist2
    have HZ := Lib.hid (And.intro hW2 (And.intro hb2 (And.intro hlist2 (And.intro (hsz2.trans (hsz1.trans hR)) hwl))))
    have H2 := Lib.hid hcp2
    have HRA := Lib.hid hra
    clear hra
    have m1 : ¬ (G = i) := by omega
    have m2 : ¬ (G = i + 1) := by omega
    have m3 : (i : Int) ≤ (G : Int) := by omega
    have m4 : (c : Int) + 1 ≤ (G : Int) := by omega
    clear hold hX0 hint hin hG hZ hR hW1 hb1 hsz1 hlist hW2 hb2 hl2 hcp2 hsz2 hlist2 hw hn hv hrd hX hXl hYl hVl hVr hYr hi0 hz hg ht hS hcs hwl
    go_enter Tryz.func40, Tryz.ntmps40
    go_wp2_with (at_builtin; refine wpList_append_run _ (by rfl) _ _ _ _ (by rfl) (.slice (some ⟨g, off, none⟩) i c) (.int .i64 ((c : Int) + 1 - (i : Int))) (by rfl) (by rfl) (HRA.out _) ?_)
    go_region_law (refine step_copy_run _ (by rfl) _ _ _ _ (by rfl) (.slice (some ⟨w.heap.size, (i + 1) * 4, none⟩) (c - i) (G - (i + 1))) (.slice (some ⟨g, off + i * 4, none⟩) (c - i) (c - i)) (by go_simp <;> rfl) (by go_simp <;> rfl) (H2.out _) ?_)
    go_wp2
    go_ret
    have hf : Fr (fun j => j = g) w (W2.drew.setRow w.heap.size (spl R1 ((i + 1) * 4) ((l.drop i).flatMap Step.cells))) := fr_of_below (HZ.out.2.1.drew.trans (below_of_fr (fr_setRow _ _ _) HZ.out.2.1.size fun i h => Nat.le_of_eq h.symm))
    refine ⟨_, rfl, ?_, hf⟩
    refine ⟨by rw [flat_len step_len], .inr ⟨w.heap.size, 0, G, _, by rw [HZ.out.2.2.2.2]; rfl, .inr (Nat.le_refl _), setRow_at (w := W2.drew) HZ.out.1, by rw [HZ.out.2.2.2.2]; omega, by unfold maxLen; omega, by rw [HZ.out.2.2.2.1]; omega, by rw [HZ.out.2.2.2.2]; exact HZ.out.2.2.1⟩⟩
end Go.Proofs.YtkoeplbkeboklaaGreat
/- The plain side of retro: a formed line with a step more, or less, is formed; what Insert, Delete return. No program in sight. -/
set_option linter.unusedVariables false
set_option linter.unusedSimpArgs false
namespace Go.Proofs.YtkoeplbkeboklaaGreat
def strictL (l : List Step) : Prop := l.Pairwise fun a b => a.at_ < b.at_
theorem incP_of_pair {l : List Step} (h : strictL l) : incP l = true :=
  (incP_iff l).2 fun i x y h1 h2 => by
    obtain ⟨l1, rfl⟩ := List.getElem?_eq_some_iff.1 h1
    obtain ⟨l2, rfl⟩ := List.getElem?_eq_some_iff.1 h2
    exact List.pairwise_iff_getElem.1 h i (i + 1) l1 l2 (by omega)
theorem isLineP_mk {k : Int} {l : List Step} (h1 : 1 ≤ k) (h3 : k ≤ 3) (hl : l.length ≤ 60) (ha : ∀ x ∈ l, isStepP k x = true) (hs : strictL l) : isLineP k l = true := by
  simp only [isLineP, Bool.and_eq_true, decide_eq_true_eq, List.all_eq_true]
  exact ⟨⟨⟨⟨h1, h3⟩, hl⟩, ha⟩, incP_of_pair hs⟩
theorem line_strict {k : Int} {l : List Step} (h : isLineP k l = true) : strictL l := incP_pair (isLineP_spec h).2.2.2.2
theorem take_lt {l : List Step} {t : Int} (hs : strictL l) : ∀ x ∈ l.take (placeAt t l), x.at_ < t := fun x hx => by
  obtain ⟨i, hi, rfl⟩ := List.getElem_of_mem hx
  rw [List.length_take] at hi
  rw [List.getElem_take]
  exact (placeAt_iff hs (List.getElem?_eq_getElem (by omega))).2 (by omega)
theorem drop_ge {l : List Step} {t : Int} (hs : strictL l) : ∀ x ∈ l.drop (placeAt t l), t ≤ x.at_ := fun x hx => by
  obtain ⟨i, hi, rfl⟩ := List.getElem_of_mem hx
  rw [List.length_drop] at hi
  rw [List.getElem_drop]
  have := (placeAt_iff (t := t) hs (List.getElem?_eq_getElem (show placeAt t l + i < l.length by omega)))
  have h2 : ¬ (l[placeAt t l + i].at_ < t) := fun h => by have := this.1 h; omega
  omega
theorem drop_gt {l : List Step} {t : Int} (hs : strictL l) (hh : hasP l t = false) : ∀ x ∈ l.drop (placeAt t l), t < x.at_ := fun x hx => by
  have h1 := drop_ge hs x hx
  have hlt : placeAt t l < l.length := by
    have := List.length_pos_of_mem hx
    rw [List.length_drop] at this; omega
  have h0 : l[placeAt t l]? = some l[placeAt t l] := List.getElem?_eq_getElem hlt
  have hne : l[placeAt t l].at_ ≠ t := by
    have : hasP l t = (l[placeAt t l].at_ == t) := by simp only [hasP, h0]
    rw [this] at hh; simpa using hh
  rw [List.drop_eq_getElem_cons hlt] at hx
  have h2 : t ≤ l[placeAt t l].at_ := drop_ge hs _ (by rw [List.drop_eq_getElem_cons hlt]; exact List.mem_cons_self)
  rcases List.mem_cons.1 hx with rfl | hx'
  · omega
  · have hp : (l.drop (placeAt t l)).Pairwise fun a b => a.at_ < b.at_ := hs.sublist (List.drop_sublist _ _)
    rw [List.drop_eq_getElem_cons hlt] at hp
    have := (List.pairwise_cons.1 hp).1 x hx'
    omega
theorem with_strict {l : List Step} {s : Step} (hs : strictL l) (hh : hasP l s.at_ = false) : strictL (withP l s) := by
  unfold withP
  refine List.pairwise_append.2 ⟨hs.sublist (List.take_sublist _ _), List.pairwise_cons.2 ⟨fun x hx => drop_gt hs hh x hx, hs.sublist (List.drop_sublist _ _)⟩, fun a ha b hb => ?_⟩
  have h1 := take_lt hs a ha
  rcases List.mem_cons.1 hb with rfl | hb
  · exact h1
  · have := drop_gt hs hh b hb; omega
theorem with_mem {l : List Step} {s x : Step} : x ∈ withP l s ↔ x = s ∨ x ∈ l := by
  unfold withP
  rw [List.mem_append, List.mem_cons]
  conv => rhs; rw [← List.take_append_drop (placeAt s.at_ l) l, List.mem_append]
  constructor
  · rintro (h | h | h) <;> simp [h]
  · rintro (h | h | h) <;> simp [h]
theorem with_length (l : List Step) (s : Step) : (withP l s).length = l.length + 1 := by
  have := placeAt_le s.at_ l
  simp [withP]; omega
theorem isLineP_with {k : Int} {l : List Step} {s : Step} (h : isLineP k l = true) (hs : isStepP k s = true) (hh : hasP l s.at_ = false) (hl : l.length < 60) : isLineP k (withP l s) = true := by
  obtain ⟨h1, h3, _, ha, _⟩ := isLineP_spec h
  exact isLineP_mk h1 h3 (by rw [with_length]; omega) (fun x hx => (with_mem.1 hx).elim (fun e => e ▸ hs) (ha x)) (with_strict (line_strict h) hh)
theorem without_sub (l : List Step) (i : Nat) : (withoutP l i).Sublist l := by
  unfold withoutP
  conv => rhs; rw [← List.take_append_drop i l]
  exact (List.Sublist.refl _).append (by rw [← List.drop_drop]; exact List.drop_sublist _ _)
theorem isLineP_without {k : Int} {l : List Step} (i : Nat) (h : isLineP k l = true) : isLineP k (withoutP l i) = true := by
  obtain ⟨h1, h3, hl, ha, _⟩ := isLineP_spec h
  have hsub := without_sub l i
  exact isLineP_mk h1 h3 (Nat.le_trans hsub.length_le hl) (fun x hx => ha x (hsub.subset hx)) ((line_strict h).sublist hsub)
theorem has_lt {l : List Step} {t : Int} (h : hasP l t = true) : placeAt t l < l.length := by
  unfold hasP at h
  split at h
  · rename_i s hs; exact (List.getElem?_eq_some_iff.1 hs).1
  · cases h
def insertP (k : Int) (l : List Step) (s : Step) : (Int × List Step) × List Span × Int :=
  if isLineP k l && isStepP k s then
    if hasP l s.at_ then ((0, []), [], 7) else if l.length = 60 then ((0, []), [], 3) else ((k, withP l s), diffOf k l (withP l s), 0)
  else ((0, []), [], 2)
def deleteP (k : Int) (l : List Step) (t : Int) : (Int × List Step) × List Span × Int :=
  if isLineP k l then
    if hasP l t then ((k, withoutP l (placeAt t l)), diffOf k l (withoutP l (placeAt t l)), 0) else ((0, []), [], 5)
  else ((0, []), [], 2)
end Go.Proofs.YtkoeplbkeboklaaGreat
/- The reference's Insert. -/
set_option linter.unusedVariables false
set_option linter.unusedSimpArgs false
namespace Go.Proofs.YtkoeplbkeboklaaGreat
open Go.RowKit
theorem win_slok {α : Type} {enc : α → List Value} {k e : Nat} {w : World} {v : Value} {S : Nat → Prop} {xs : List α} (h : Win enc k e w v S xs) : SlOk v := by
  rcases h.2 with ⟨h1, _⟩ | ⟨g, off, cap, cur, hv, _, _, hnc, _⟩
  · exact .inl h1
  · exact .inr ⟨g, off, _, cap, hv, hnc⟩
end Go.Proofs.YtkoeplbkeboklaaGreat
/- The reference's Delete. -/
set_option linter.unusedVariables false
set_option linter.unusedSimpArgs false
namespace Go.Proofs.YtkoeplbkeboklaaGreat
open Go.RowKit
theorem slok_le {v : Value} (h : SlOk v) : ∀ a n c, v = .slice a n c → n ≤ c := by
  intro a n c hv
  rcases h with h | ⟨b, off, n', c', h, hc⟩
  · rw [h] at hv; injection hv with h1 h2 h3; omega
  · rw [h] at hv; injection hv with h1 h2 h3; omega
theorem named_store2 {w : World} {X T : Nat} {c0 c1 : Value} (hr : w.heap[X]? = some (.cells #[c0, c1] T (0, 0))) (a b : Value) {G : World → Prop}
    (h : ∀ W, Fr (fun i => i = X) w W → W.cell? ⟨X, 0, none⟩ = some a → W.cell? ⟨X, 1, none⟩ = some b → W.heap.size = w.heap.size → G W) : G ((w.setCell ⟨X, 0, none⟩ a).setCell ⟨X, 1, none⟩ b) :=
  h _ (stored2 w X a b) (cell_blk (stored2_blk hr a b) 0) (cell_blk (stored2_blk hr a b) 1) (by simp [World.setCell])
end Go.Proofs.YtkoeplbkeboklaaGreat
/- retro.place$1: how a step's time compares. -/
set_option linter.unusedVariables false
set_option linter.unusedSimpArgs false
namespace Go.Proofs.YtkoeplbkeboklaaGreat
open Go.RowKit
theorem placeCmp_any (s : Step) (t : Int) (w : World) : Calls Tryz.prog 59 #[.agg #[.int .i64 s.at_, .int .i64 s.do_, .int .i64 s.key, .int .i64 s.val], .int .i64 t] w fun e w' => e = .returned (.int .i64 (cmpP s.at_ t)) ∧ Below w.heap.size w w' := by
  go_enter Tryz.func59, Tryz.ntmps59
  go_wp2_with (go_at_call 57; refine (compare_any _ _ _).mono ?_; rintro e w' ⟨rfl, rfl⟩)
  go_ret
  exact ⟨rfl, (Below.refl _ _).alloc (Nat.le_refl _) _⟩
end Go.Proofs.YtkoeplbkeboklaaGreat
/- slices.BinarySearchFunc at a line's steps with retro.place$1. -/
set_option linter.unusedVariables false
set_option linter.unusedSimpArgs false
namespace Go.Proofs.YtkoeplbkeboklaaGreat
open Go.RowKit
set_option maxHeartbeats 2000000 in
theorem bsearch_any (v : Value) (l : List Step) (t : Int) (w : World) (hr : Rd Step.cells 4 w v l) (hi : incP l = true) (hl : l.length ≤ 100000) :
    Calls Tryz.prog 58 #[v, .int .i64 t, .func (.func 59) #[] #[]] w fun e w' => e = .returned (.tuple #[.int .i64 (placeAt t l : Nat), .bool (hasP l t)]) ∧ Below w.heap.size w w' := by
  obtain ⟨a, c, rfl⟩ : ∃ a c, v = .slice a l.length c := by obtain ⟨_, a, c, rfl, _⟩ := hr; exact ⟨a, c, rfl⟩
  have HR := Lib.hid hr
  have HP := Lib.hid (fun i s h => placeAt_iff (t := t) (incP_pair hi) (i := i) (s := s) h)
  have hle := placeAt_le t l
  have HH := Lib.hid (show hasP l t = match l[placeAt t l]? with | some s => s.at_ == t | none => false from rfl)
  clear hr hi
  generalize placeAt t l = p at *
  go_enter Tryz.func58, Tryz.ntmps58
  go_wp2
  go_loopw [9, 10] (fun i j W => ∃ m n : Nat, i = .int .i64 m ∧ j = .int .i64 n ∧ m ≤ p ∧ p ≤ n ∧ n ≤ l.length ∧ Below w.heap.size w W) (fun i j _ => (intOf j).toNat - (intOf i).toNat)
  case atStart => exact ⟨0, l.length, rfl, rfl, by omega, hle, by omega, Below.refl _ _⟩
  case round =>
    obtain ⟨m, n, rfl, rfl, hm, hn, hnl, hB⟩ := hrel
    by_cases hmn : m < n
    · obtain ⟨q, hq⟩ : ∃ q, q = (m + n) / 2 := ⟨_, rfl⟩
      have hqi : ((m : Int) + (n : Int)) / 2 = (q : Int) := by omega
      have hmq : m ≤ q := by omega
      have hqn : q < n := by omega
      have hql : q < l.length := by omega
      have hx := List.getElem?_eq_getElem hql
      generalize l[q] = s at hx
      obtain ⟨b, off, rfl, hbl, hc⟩ := rd_at (HR.out.below hB) hx
      have q0 : wr.cell? ⟨b, off + q * 4, none⟩ = some (.int .i64 s.at_) := hc 0 _ rfl
      have q1 := hc 1 _ rfl
      have q2 := hc 2 _ rfl
      have q3 := hc 3 _ rfl
      have hs := HP.out q s hx
      by_cases hst : s.at_ < t
      · have hcm : cmpP s.at_ t = -1 := by simp [cmpP, hst]
        have hqp := hs.1 hst
        have HC := Lib.hid (hcm ▸ placeCmp_any s t wr)
        clear hc hx hs hst hcm hq
        go_wp2_with (go_at_call 59; refine HC.out.mono ?_; rintro e w2 ⟨rfl, hb2⟩)
        go_roundw
        case rel => exact ⟨q + 1, n, by go_num, rfl, by omega, hn, hnl, hB.trans (hb2.mono hB.size)⟩
        case measure => simp [intOf]; omega
      · have hcm : 0 ≤ cmpP s.at_ t := by unfold cmpP; split; omega; split <;> omega
        have hqp : p ≤ q := by have := fun h => hst (hs.2 h); omega
        obtain ⟨z, hz⟩ : ∃ z, cmpP s.at_ t = z := ⟨_, rfl⟩
        rw [hz] at hcm
        have hzb : decide (z < 0) = false := by simp; omega
        have HC := Lib.hid (hz ▸ placeCmp_any s t wr)
        clear hc hx hs hst hz hq
        go_wp2_with (go_at_call 59; refine HC.out.mono ?_; rintro e w2 ⟨rfl, hb2⟩)
        go_roundw
        case rel => exact ⟨m, q, rfl, rfl, hm, hqp, by omega, hB.trans (hb2.mono hB.size)⟩
        case measure => simp [intOf]; omega
    · obtain rfl : m = p := by omega
      obtain rfl : n = m := by omega
      by_cases hlt : n < l.length
      · have hlb : decide ((n : Int) < (l.length : Int)) = true := by simp; omega
        have hx := List.getElem?_eq_getElem hlt
        generalize l[n] = s at hx
        obtain ⟨b, off, rfl, hbl, hc⟩ := rd_at (HR.out.below hB) hx
        have q0 : wr.cell? ⟨b, off + n * 4, none⟩ = some (.int .i64 s.at_) := hc 0 _ rfl
        have q1 := hc 1 _ rfl
        have q2 := hc 2 _ rfl
        have q3 := hc 3 _ rfl
        have hh : hasP l t = (cmpP s.at_ t == 0) := by
          rw [HH.out, hx]
          show (s.at_ == t) = _
          unfold cmpP
          by_cases h1 : s.at_ < t
          · rw [if_pos h1]; simp; omega
          · rw [if_neg h1]
            by_cases h2 : s.at_ > t
            · rw [if_pos h2]; simp; omega
            · rw [if_neg h2]; simp; omega
        have HC := Lib.hid (placeCmp_any s t wr)
        have HE := Lib.hid hh
        clear hc hx hh
        go_wp2_with (go_at_call 59; refine HC.out.mono ?_; rintro e w2 ⟨rfl, hb2⟩)
        all_goals
          go_ret2
          exact ⟨by rw [HE.out]; rfl, hB.trans (hb2.mono hB.size)⟩
      · have hlb : decide ((n : Int) < (l.length : Int)) = false := by simp; omega
        have HE := Lib.hid (show hasP l t = false by rw [HH.out, List.getElem?_eq_none (by omega)])
        go_wp2
        go_ret2
        exact ⟨by rw [HE.out]; rfl, hB⟩
end Go.Proofs.YtkoeplbkeboklaaGreat
/- retro.place: where a time stands in a line, and whether a step is there. -/
set_option linter.unusedVariables false
set_option linter.unusedSimpArgs false
namespace Go.Proofs.YtkoeplbkeboklaaGreat
open Go.RowKit
set_option maxHeartbeats 1000000 in
theorem rplace_any (k : Int) (v : Value) (l : List Step) (t : Int) (w : World) (hr : Rd Step.cells 4 w v l) (hi : incP l = true) (hl : l.length ≤ 100000) :
    Calls Tryz.prog 39 #[.agg #[.int .i64 k, v], .int .i64 t] w fun e w' => e = .returned (.tuple #[.int .i64 (placeAt t l : Nat), .bool (hasP l t)]) ∧ Below w.heap.size w w' := by
  have HC := Lib.hid (fun W (h : Rd Step.cells 4 W v l) => bsearch_any v l t W h hi hl)
  have HB := Lib.hid (fun o => (Below.refl w.heap.size w).alloc (Nat.le_refl _) o)
  have HR := Lib.hid hr
  obtain ⟨a, c, rfl⟩ : ∃ a c, v = .slice a l.length c := by obtain ⟨_, a, c, rfl, _⟩ := hr; exact ⟨a, c, rfl⟩
  clear hr hi
  generalize placeAt t l = p at *
  generalize hasP l t = q at *
  go_enter Tryz.func39, Tryz.ntmps39
  go_wp2_with (go_at_call 58; refine (HC.out _ (HR.out.below (HB.out _))).mono ?_; rintro e w1 ⟨rfl, hb1⟩)
  go_ret2
  exact ⟨rfl, (HB.out _).trans (hb1.mono (by simp))⟩
end Go.Proofs.YtkoeplbkeboklaaGreat
/- retro.fresh: a copy of a line's steps. -/
set_option linter.unusedVariables false
set_option linter.unusedSimpArgs false
namespace Go.Proofs.YtkoeplbkeboklaaGreat
open Go.RowKit
set_option maxHeartbeats 2000000 in
theorem fresh_any (v : Value) (l : List Step) (w : World) (hr : Rd Step.cells 4 w v l) (hl : l.length ≤ 100000) :
    Calls Tryz.prog 41 #[v] w fun e w' => ∃ v', e = .returned v' ∧ Win Step.cells 4 46 w' v' (fun i => w.heap.size ≤ i) l ∧ Below w.heap.size w w' := by
  obtain ⟨a, c, rfl⟩ : ∃ a c, v = .slice a l.length c := by obtain ⟨_, a, c, rfl, _⟩ := hr; exact ⟨a, c, rfl⟩
  have HR := Lib.hid (rdC_of_rd step_len (by decide) step_one hr)
  clear hr
  go_enter Tryz.func41, Tryz.ntmps41
  go_wp2_with (at_builtin; (refine wpList_append_rd w (by rfl) _ _ _ (by rfl) 46 4 32 _ Tryz.underlying23 info_step rfl (by decide) _ (fun _ => False) 0 [] (by rfl) _ (by rfl) (winC_nil _ _ _ _) l.length _ HR.out (by unfold maxLen; omega) (by omega) ?_); intro v2 w2 hwin2 hfr2 hsz2; simp only [Nat.zero_add, List.nil_append] at hwin2; obtain ⟨a2, c2, rfl, hn2, hm2⟩ := winC_slice hwin2)
  go_ret
  exact ⟨_, rfl, winC_mono hwin2 fun i hi => by simp at hi; omega, below_of_fr hfr2 (Nat.le_refl _) fun i hi => nomatch hi⟩
end Go.Proofs.YtkoeplbkeboklaaGreat
/- retro.Delete. -/
set_option linter.unusedVariables false
set_option linter.unusedSimpArgs false
namespace Go.Proofs.YtkoeplbkeboklaaGreat
open Go.RowKit
theorem delSteps_w (a : Option Addr) (c : Nat) (S : Nat → Prop) (l : List Step) (i : Nat) (w : World) (hw : Win Step.cells 4 46 w (.slice a l.length c) S l) (hi : i < l.length) (hl : l.length ≤ 100000) :
    Calls Tryz.prog 43 #[.slice a l.length c, .int .i64 i, .int .i64 (i + 1)] w fun e w' => ∃ v, e = .returned v ∧ Win Step.cells 4 46 w' v (fun j => some j = (Value.slice a l.length c).ownBlock) (withoutP l i) ∧ Fr (fun j => some j = (Value.slice a l.length c).ownBlock) w w' := by
  have hw2 := winC_mono (winC_block hw) (T := fun j => some j = (Value.slice a l.length c).ownBlock) fun i hi => hi.1
  obtain ⟨m, hm⟩ : ∃ m, l.length = m + 1 := ⟨l.length - 1, by omega⟩
  obtain ⟨g, off, rfl⟩ : ∃ g off, a = some ⟨g, off, none⟩ := by
    rcases hw.2 with ⟨h1, h2⟩ | ⟨g, off, cap, cur, hv, _⟩
    · omega
    · injection hv with h1; exact ⟨g, off, h1⟩
  have hw3 : Win Step.cells 4 46 w (.slice (some ⟨g, off, none⟩) (m + 1) c) (fun j => some j = (Value.slice (some ⟨g, off, none⟩) l.length c).ownBlock) l := by
    rw [← hm]; exact hw2
  rw [hm]
  refine (delSteps_any g off c m i _ l w hw3 hm (by omega) (by omega)).mono ?_
  rintro e w' ⟨v, rfl, h1, h2⟩
  exact ⟨v, rfl, by rw [hm] at h1; exact h1, fr_mono h2 fun j hj => by rw [hj]; rfl⟩
set_option maxHeartbeats 4000000 in
theorem rDelete_any (k : Int) (v : Value) (l : List Step) (t : Int) (w : World) (hr : Rd Step.cells 4 w v l) :
    Calls Tryz.prog 27 #[.agg #[.int .i64 k, v], .int .i64 t] w fun e w' =>
      ∃ v' vs, e = .returned (.tuple #[.agg #[.int .i64 (deleteP k l t).1.1, v'], vs, .int .i64 (deleteP k l t).2.2]) ∧ Win Step.cells 4 46 w' v' (fun i => w.heap.size ≤ i) (deleteP k l t).1.2 ∧ Win Span.cells 2 50 w' vs (fun i => w.heap.size ≤ i) (deleteP k l t).2.1 ∧ Below w.heap.size w w' := by
  obtain ⟨a, c, rfl⟩ : ∃ a c, v = .slice a l.length c := by obtain ⟨_, a, c, rfl, _⟩ := hr; exact ⟨a, c, rfl⟩
  have HR := Lib.hid hr
  have HC := Lib.hid (fun W h => isLine_any k _ l W (hr.below h))
  clear hr
  cases hl : isLineP k l with
  | false =>
    have hat : deleteP k l t = ((0, []), [], 2) := by simp [deleteP, hl]
    rw [hat]
    rw [hl] at HC
    clear hat hl
    go_enter Tryz.func27, Tryz.ntmps27
    go_wp2_with fail
    refine named_box2 (G := fun W => Calls _ _ _ W _) w _ _ _ _ fun W0 hb0 hz0 hx0 hx1 => ?_
    refine (HC.out _ hb0).mono ?_
    rintro e w1 ⟨rfl, hb1⟩
    have hB := hb0.trans (hb1.mono (by omega))
    have hr2 := (hb1.block _ (by omega)).trans hx1
    have f0 := cell_blk hr2 0
    have f1 := cell_blk hr2 1
    have k0 := free_blk hr2 0
    have k1 := free_blk hr2 1
    have hE := line_end (k := 0) hB.size hB hr2 (by omega) (win_nil Step.cells 4 46 w1 (fun i => i ≠ w.heap.size + 1 ∧ w.heap.size ≤ i)) (fun i hi => hi)
    have HE := Lib.hid (hE _ rfl)
    clear hE hB hr2
    go_wp2
    have g0 := HE.out.1
    have g1 := HE.out.2.1
    exact bodyPost_ret (v := .tuple #[.agg #[.int .i64 0, .slice none 0 0], .slice none 0 0, .int .i64 2]) (by simp [results, Tryz.results27, go_sem, g0, g1]) rfl ⟨_, _, rfl, winC_nil _ _ _ _, winC_nil _ _ _ _, HE.out.2.2.2⟩

  | true =>
    rw [hl] at HC
    have hlen := line_len hl
    have HL := Lib.hid hl
    have HH := Lib.hid (fun W h => rplace_any k _ l t W (HR.out.below h) (isLineP_spec hl).2.2.2.2 (by omega))
    clear hl
    cases hh : hasP l t with
    | false =>
      have hat : deleteP k l t = ((0, []), [], 5) := by simp [deleteP, HL.out, hh]
      rw [hat]
      rw [hh] at HH
      clear hat hh
      go_enter Tryz.func27, Tryz.ntmps27
      go_wp2_with fail
      refine named_box2 (G := fun W => Calls _ _ _ W _) w _ _ _ _ fun W0 hb0 hz0 hx0 hx1 => ?_
      refine (HC.out _ hb0).mono ?_
      rintro e w1 ⟨rfl, hb1⟩
      have hB1 := hb0.trans (hb1.mono (by omega))
      have hz1 := hb1.size
      have d0 : w1.cell? ⟨w.heap.size, 0, none⟩ = some (.int .i64 k) := below_cell hb1 (cell_blk hx0 0)
      have d1 : w1.cell? ⟨w.heap.size, 1, none⟩ = some (.slice a l.length c) := below_cell hb1 (cell_blk hx0 1)
      have HB1 := Lib.hid (And.intro hB1 (And.intro ((hb1.block _ (by omega)).trans hx1) hz1))
      clear hB1 hx0 hx1 hb0 hb1
      go_wp2_with fail
      refine (HH.out _ HB1.out.1).mono ?_
      rintro e w3 ⟨rfl, hb3⟩
      have hB3 := HB1.out.1.trans (hb3.mono HB1.out.1.size)
      have p0 := below_cell hb3 d0
      have p1 := below_cell hb3 d1
      have hz3 := hb3.size
      have HB3 := Lib.hid (And.intro hB3 (And.intro ((hb3.block _ (by omega)).trans HB1.out.2.1) trivial))
      clear hb3 hB3 d0 d1
      have d0 := p0; have d1 := p1
      clear p0 p1

      have hB := HB3.out.1
      have hr2 := HB3.out.2.1
      have f0 := cell_blk hr2 0
      have f1 := cell_blk hr2 1
      have k0 := free_blk hr2 0
      have k1 := free_blk hr2 1
      have hE := line_end (k := 0) hB.size hB hr2 (by omega) (win_nil Step.cells 4 46 w3 (fun i => i ≠ w.heap.size + 1 ∧ w.heap.size ≤ i)) (fun i hi => hi)
      have HE := Lib.hid (hE _ rfl)
      clear hE hB hr2
      go_wp2
      have g0 := HE.out.1
      have g1 := HE.out.2.1
      exact bodyPost_ret (v := .tuple #[.agg #[.int .i64 0, .slice none 0 0], .slice none 0 0, .int .i64 5]) (by simp [results, Tryz.results27, go_sem, g0, g1]) rfl ⟨_, _, rfl, winC_nil _ _ _ _, winC_nil _ _ _ _, HE.out.2.2.2⟩

    | true =>
      have hat : deleteP k l t = ((k, withoutP l (placeAt t l)), diffOf k l (withoutP l (placeAt t l)), 0) := by simp [deleteP, HL.out, hh]
      rw [hat]
      rw [hh] at HH
      have hpl := has_lt hh
      have hlw := isLineP_without (placeAt t l) HL.out
      have hle := (without_sub l (placeAt t l)).length_le
      have HWO := Lib.hid (fun a c S W h => delSteps_w a c S l (placeAt t l) W h hpl (by omega))
      clear hat hh
      generalize hq : placeAt t l = q at *
      generalize hwl : withoutP l q = lw at *
      have HW := Lib.hid hlw
      clear hlw
      have hqw : IntKind.i64.wrap ((q : Int) + 1) = (q : Int) + 1 := Go.IntWalk.i64_in _ (by omega)
      have EF := Lib.hid (enters_of Tryz.func41 (by kernel_rfl) rfl)
      have EX := Lib.hid (enters_of Tryz.func43 (by kernel_rfl) rfl)
      go_enter Tryz.func27, Tryz.ntmps27
      go_wp2_with fail
      refine named_box2 (G := fun W => Calls _ _ _ W _) w _ _ _ _ fun W0 hb0 hz0 hx0 hx1 => ?_
      refine (HC.out _ hb0).mono ?_
      rintro e w1 ⟨rfl, hb1⟩
      have hB1 := hb0.trans (hb1.mono (by omega))
      have hz1 := hb1.size
      have d0 : w1.cell? ⟨w.heap.size, 0, none⟩ = some (.int .i64 k) := below_cell hb1 (cell_blk hx0 0)
      have d1 : w1.cell? ⟨w.heap.size, 1, none⟩ = some (.slice a l.length c) := below_cell hb1 (cell_blk hx0 1)
      have HB1 := Lib.hid (And.intro hB1 (And.intro ((hb1.block _ (by omega)).trans hx1) hz1))
      clear hB1 hx0 hx1 hb0 hb1
      go_wp2_with fail
      refine (HH.out _ HB1.out.1).mono ?_
      rintro e w3 ⟨rfl, hb3⟩
      have hB3 := HB1.out.1.trans (hb3.mono HB1.out.1.size)
      have p0 := below_cell hb3 d0
      have p1 := below_cell hb3 d1
      have hz3 := hb3.size
      have HB3 := Lib.hid (And.intro hB3 (And.intro ((hb3.block _ (by omega)).trans HB1.out.2.1) trivial))
      clear hb3 hB3 d0 d1
      have d0 := p0; have d1 := p1
      clear p0 p1

      have hzz : w.heap.size + 1 < w3.heap.size := by omega
      go_wp2
      set_option maxRecDepth 10000 in
      go_region_held3 (fun W => W.cell? ⟨w.heap.size, 0, none⟩ = some (.int .i64 k) ∧ W.cell? ⟨w.heap.size, 1, none⟩ = some (.slice a l.length c)) (first | exact ⟨d0, d1⟩ | exact ⟨p0, p1⟩ | exact ⟨r0, r1⟩ | exact ⟨fr_cell (stored2 w4 w5.heap.size _ _) r0 (fun h => by have h2 : w.heap.size = w5.heap.size := h; omega), fr_cell (stored2 w4 w5.heap.size _ _) r1 (fun h => by have h2 : w.heap.size = w5.heap.size := h; omega)⟩ | exact ⟨fr_cell (stored2 w4 w3.heap.size _ _) r0 (fun h => by have h2 : w.heap.size = w3.heap.size := h; omega), fr_cell (stored2 w4 w3.heap.size _ _) r1 (fun h => by have h2 : w.heap.size = w3.heap.size := h; omega)⟩ | go_keep) ((first | (refine step_call (by rfl) 43 _ _ (by rfl) (EX.out) _ (by rfl) (HWO.out _ _ _ _ (by first | exact hw5 | exact winC_move hw5 (fr_alloc (fun _ => False) w5 _) (fun _ _ h => h))) ?_; rintro _ w4 ⟨v4, rfl, hw4, hf4⟩; obtain ⟨a4, c4, rfl, _, _⟩ := winC_slice hw4; refine ⟨_, rfl, ?_⟩; have hb34 : Below w3.heap.size w3 w4 := (by first | exact hb35.trans (below_of_fr hf4 hb35.size fun i hi => (hob i hi).1) | exact (hb35.alloc hb35.size _).trans (below_of_fr hf4 (by have := hb35.size; simp; omega) fun i hi => (hob i hi).1)); have r0 := below_cell hb34 d0; have r1 := below_cell hb34 d1; try (have yr := (hf4.block w5.heap.size (by simp) (fun h => by have := (hob _ h).2; omega)).trans (heap_alloc_new w5 (.cells #[.int .i64 0, .slice none 0 0] 25)); have y0 : w4.cell? ⟨w5.heap.size, 0, none⟩ = some (.int .i64 0) := cell_blk yr 0; have y1 : w4.cell? ⟨w5.heap.size, 1, none⟩ = some (.slice none 0 0) := cell_blk yr 1; have k0 := free_blk yr 0; have k1 := free_blk yr 1)) | (refine step_call (by rfl) 41 _ _ (by rfl) (EF.out) _ (by rfl) (fresh_any _ l _ (HR.out.below (by first | exact HB3.out.1.drew | exact HB3.out.1.drew.alloc HB3.out.1.size _)) (by omega)) ?_; rintro _ w5 ⟨v5, rfl, hw5, hb5⟩; obtain ⟨af, cf, rfl, _, _⟩ := winC_slice hw5; refine ⟨_, rfl, ?_⟩; have hb35 : Below w3.heap.size w3 w5 := (by first | exact (Below.refl _ _).drew.trans hb5 | exact ((Below.refl _ _).drew.alloc (Nat.le_refl _) _).trans (hb5.mono (by simp [drew_size]))); have hob : ∀ i, some i = (Value.slice af l.length cf).ownBlock → w3.heap.size ≤ i ∧ i < w5.heap.size := fun i hi => (by have := winC_ob hw5 i hi; first | omega | (simp [drew_size] at this; omega)); have hs5 := hb35.size; have p0 := below_cell hb35 d0; have p1 := below_cell hb35 d1; try (have hba : Below (w3.alloc (.cells #[.int .i64 0, .slice none 0 0] 25)).heap.size (w3.alloc (.cells #[.int .i64 0, .slice none 0 0] 25)) w5 := (Below.refl _ _).drew.trans hb5; have xr := (hba.block w3.heap.size (by simp)).trans (heap_alloc_new w3 (.cells #[.int .i64 0, .slice none 0 0] 25)); have hsx := hba.size; have hox : ∀ i, some i = (Value.slice af l.length cf).ownBlock → w3.heap.size < i := fun i hi => (by have := winC_ob hw5 i hi; simp [drew_size] at this; omega); clear hba)) | (have yr := (hf4.block w3.heap.size (by first | omega | (simp at hsx; omega)) (fun h => by have := hox _ h; omega)).trans xr; have y0 : w4.cell? ⟨w3.heap.size, 0, none⟩ = some (.int .i64 0) := cell_blk yr 0; have y1 : w4.cell? ⟨w3.heap.size, 1, none⟩ = some (.slice none 0 0) := cell_blk yr 1; have k0 := free_blk yr 0; have k1 := free_blk yr 1; clear xr; go_simp) | fail))

      · refine named_box w4 _ _ fun W5 hbx hzx hx5 => ?_
        have u0 : W5.cell? ⟨w4.heap.size, 0, none⟩ = some (.int .i64 k) := hx5 0
        have u1 : W5.cell? ⟨w4.heap.size, 1, none⟩ = some (.slice a4 lw.length c4) := hx5 1
        have hF5 : Fr (fun i => i = w4.heap.size) w4 W5 := fr_of_below hbx
        have hz5 : w4.heap.size < W5.heap.size := by omega
        clear hx5 hbx
        have hw4' : Win Step.cells 4 46 w4 (.slice a4 lw.length c4) (fun i => w3.heap.size ≤ i ∧ i < w4.heap.size ∧ ¬ i = w4.heap.size) lw := winC_mono (winC_block hw4) fun i hi => ⟨(hob i hi.2.1).1, hi.2.2, by have := hi.2.2; omega⟩
        have hBz := HB3.out.1.size
        have hB4 : Below w.heap.size w w4 := HB3.out.1.trans (hb34.mono hBz)
        have hs34 := hb34.size
        have hB6' : Below w.heap.size w W5 := hB4.trans (below_of_fr hF5 hB4.size fun i hi => by have h2 : i = w4.heap.size := hi; omega)
        have hr5 := (hF5.block (w.heap.size + 1) (by omega) (fun h => by have h2 : w.heap.size + 1 = w4.heap.size := h; omega)).trans ((hb34.block (w.heap.size + 1) (by omega)).trans HB3.out.2.1)
        have z0 := fr_cell hF5 r0 (fun h => by have h2 : w.heap.size = w4.heap.size := h; omega)
        have z1 := fr_cell hF5 r1 (fun h => by have h2 : w.heap.size = w4.heap.size := h; omega)
        have f0 := cell_blk hr5 0
        have f1 := cell_blk hr5 1
        have k0 := free_blk hr5 0
        have k1 := free_blk hr5 1
        have hw5' : Win Step.cells 4 46 W5 (.slice a4 lw.length c4) (fun i => i ≠ w.heap.size + 1 ∧ w.heap.size ≤ i) lw := winC_mono (winC_move hw4' hF5 (fun i hi h => hi.2.2 h)) fun i hi => ⟨by omega, by omega⟩
        have hDC := spans_any k _ _ l lw W5.drew ((HR.out.below hB6').below (Below.refl _ _).drew) ((win_rd step_len hw5').below (Below.refl _ _).drew) (by omega) (by omega) (lines_time HL.out HW.out)
        have H5 := Lib.hid (And.intro hB6' (And.intro hr5 (And.intro hw5' hDC)))
        clear hb34 hB6' hr5 hw4 hw4' hw5' hDC d0 d1 p0 p1 r0 r1 hF5 hB4 hw5 hb5 hb35 hf4 hob
        have hX : w.heap.size + 1 < w4.heap.size := by omega
        generalize w4.heap.size = X at *
        go_wp2

        have ED := Lib.hid (enters_of Tryz.func42 (by kernel_rfl) rfl)
        set_option maxRecDepth 10000 in
        go_region_held3 (fun W => W.cell? ⟨X, 0, none⟩ = some (.int .i64 k) ∧ W.cell? ⟨X, 1, none⟩ = some (.slice a4 lw.length c4) ∧ W.cell? ⟨w.heap.size, 0, none⟩ = some (.int .i64 k) ∧ W.cell? ⟨w.heap.size, 1, none⟩ = some (.slice a l.length c)) (first | exact ⟨u0, u1, z0, z1⟩ | exact ⟨p0, p1, p2, p3⟩ | exact ⟨fr_cell (stored2 w6 (w.heap.size + 1) _ _) p0 (fun h => by have h2 : X = w.heap.size + 1 := h; omega), fr_cell (stored2 w6 (w.heap.size + 1) _ _) p1 (fun h => by have h2 : X = w.heap.size + 1 := h; omega), fr_cell (stored2 w6 (w.heap.size + 1) _ _) p2 (fun h => by have h2 : w.heap.size = w.heap.size + 1 := h; omega), fr_cell (stored2 w6 (w.heap.size + 1) _ _) p3 (fun h => by have h2 : w.heap.size = w.heap.size + 1 := h; omega)⟩ | go_keep) ((first | (refine step_call (by rfl) 42 _ _ (by rfl) (ED.out) _ (by rfl) H5.out.2.2.2 ?_; rintro _ w6 ⟨v6, rfl, hw6, hb6⟩; obtain ⟨a6, c6, rfl, _, _⟩ := winC_slice hw6; refine ⟨_, rfl, ?_⟩; have hb6' := (Below.refl W5.heap.size W5).drew.trans hb6; have p0 := below_cell hb6' u0; have p1 := below_cell hb6' u1; have p2 := below_cell hb6' z0; have p3 := below_cell hb6' z1; have q0 := below_cell hb6' f0; have q1 := below_cell hb6' f1; have k2 := below_frozen hb6' (a := ⟨w.heap.size + 1, 0, none⟩) (by show w.heap.size + 1 < _; omega) k0; have k3 := below_frozen hb6' (a := ⟨w.heap.size + 1, 1, none⟩) (by show w.heap.size + 1 < _; omega) k1) | fail))
        all_goals
          have hB6 := H5.out.1.trans (hb6'.mono H5.out.1.size)
          have hr6 := (hb6'.block _ (by omega)).trans H5.out.2.1
          have hw6l : Win Step.cells 4 46 w6 (.slice a4 lw.length c4) (fun i => i ≠ w.heap.size + 1 ∧ w.heap.size ≤ i) lw := winC_move H5.out.2.2.1 (fr_of_below (S := fun _ => False) hb6') (fun _ _ h => h)
          have hE := line_end (k := k) hB6.size hB6 hr6 (by omega) hw6l (fun i hi => hi)
          have HE := Lib.hid (hE _ rfl)
          have hsp : Win Span.cells 2 50 ((w6.setCell ⟨w.heap.size + 1, 0, none⟩ (.int .i64 k)).setCell ⟨w.heap.size + 1, 1, none⟩ (.slice a4 lw.length c4)) (.slice a6 (diffOf k l lw).length c6) (fun i => w.heap.size ≤ i) (diffOf k l lw) := winC_mono (winC_move hw6 (stored2 w6 (w.heap.size + 1) _ _) (fun i hi h => by have h2 : i = w.heap.size + 1 := h; simp [drew_size] at hi; omega)) fun i hi => by have := H5.out.1.size; simp [drew_size] at hi; omega
          have HSP := Lib.hid hsp
          clear hE hB6 hr6 hw6l hsp p0 p1 p2 p3 q0 q1 k2 k3 hw6 hb6 hb6' u0 u1 z0 z1 f0 f1 k0 k1
          generalize (w6.setCell ⟨w.heap.size + 1, 0, none⟩ (.int .i64 k)).setCell ⟨w.heap.size + 1, 1, none⟩ (.slice a4 lw.length c4) = W7 at *
          have g0 := HE.out.1
          have g1 := HE.out.2.1
          go_wp2
          exact bodyPost_ret (v := .tuple #[.agg #[.int .i64 k, .slice a4 lw.length c4], .slice a6 (diffOf k l lw).length c6, .int .i64 0]) (by simp [results, Tryz.results27, go_sem, g0, g1]) rfl ⟨_, _, rfl, by (try rw [hwl]); exact HE.out.2.2.1, by (try rw [hwl]); exact HSP.out, HE.out.2.2.2⟩

      · have hxw := (Array.getElem?_eq_some_iff.1 yr).1
        refine named_store2 yr _ _ fun W5 hF5 u0 u1 hz5 => ?_
        clear yr y0 y1 k0 k1
        have hw4' : Win Step.cells 4 46 w4 (.slice a4 lw.length c4) (fun i => w3.heap.size ≤ i ∧ i < w4.heap.size ∧ ¬ i = w5.heap.size) lw := winC_mono (winC_block hw4) fun i hi => ⟨(hob i hi.2.1).1, hi.2.2, by have := (hob i hi.2.1).2; omega⟩
        have hBz := HB3.out.1.size
        have hB4 : Below w.heap.size w w4 := HB3.out.1.trans (hb34.mono hBz)
        have hs34 := hb34.size
        have hB6' : Below w.heap.size w W5 := hB4.trans (below_of_fr hF5 hB4.size fun i hi => by have h2 : i = w5.heap.size := hi; omega)
        have hr5 := (hF5.block (w.heap.size + 1) (by omega) (fun h => by have h2 : w.heap.size + 1 = w5.heap.size := h; omega)).trans ((hb34.block (w.heap.size + 1) (by omega)).trans HB3.out.2.1)
        have z0 := fr_cell hF5 r0 (fun h => by have h2 : w.heap.size = w5.heap.size := h; omega)
        have z1 := fr_cell hF5 r1 (fun h => by have h2 : w.heap.size = w5.heap.size := h; omega)
        have f0 := cell_blk hr5 0
        have f1 := cell_blk hr5 1
        have k0 := free_blk hr5 0
        have k1 := free_blk hr5 1
        have hw5' : Win Step.cells 4 46 W5 (.slice a4 lw.length c4) (fun i => i ≠ w.heap.size + 1 ∧ w.heap.size ≤ i) lw := winC_mono (winC_move hw4' hF5 (fun i hi h => hi.2.2 h)) fun i hi => ⟨by omega, by omega⟩
        have hDC := spans_any k _ _ l lw W5.drew ((HR.out.below hB6').below (Below.refl _ _).drew) ((win_rd step_len hw5').below (Below.refl _ _).drew) (by omega) (by omega) (lines_time HL.out HW.out)
        have H5 := Lib.hid (And.intro hB6' (And.intro hr5 (And.intro hw5' hDC)))
        clear hb34 hB6' hr5 hw4 hw4' hw5' hDC d0 d1 p0 p1 r0 r1 hF5 hB4 hw5 hb5 hb35 hf4 hob
        have hX : w.heap.size + 1 < w5.heap.size := by omega
        generalize w5.heap.size = X at *
        go_wp2

        have ED := Lib.hid (enters_of Tryz.func42 (by kernel_rfl) rfl)
        set_option maxRecDepth 10000 in
        go_region_held3 (fun W => W.cell? ⟨X, 0, none⟩ = some (.int .i64 k) ∧ W.cell? ⟨X, 1, none⟩ = some (.slice a4 lw.length c4) ∧ W.cell? ⟨w.heap.size, 0, none⟩ = some (.int .i64 k) ∧ W.cell? ⟨w.heap.size, 1, none⟩ = some (.slice a l.length c)) (first | exact ⟨u0, u1, z0, z1⟩ | exact ⟨p0, p1, p2, p3⟩ | exact ⟨fr_cell (stored2 w6 (w.heap.size + 1) _ _) p0 (fun h => by have h2 : X = w.heap.size + 1 := h; omega), fr_cell (stored2 w6 (w.heap.size + 1) _ _) p1 (fun h => by have h2 : X = w.heap.size + 1 := h; omega), fr_cell (stored2 w6 (w.heap.size + 1) _ _) p2 (fun h => by have h2 : w.heap.size = w.heap.size + 1 := h; omega), fr_cell (stored2 w6 (w.heap.size + 1) _ _) p3 (fun h => by have h2 : w.heap.size = w.heap.size + 1 := h; omega)⟩ | go_keep) ((first | (refine step_call (by rfl) 42 _ _ (by rfl) (ED.out) _ (by rfl) H5.out.2.2.2 ?_; rintro _ w6 ⟨v6, rfl, hw6, hb6⟩; obtain ⟨a6, c6, rfl, _, _⟩ := winC_slice hw6; refine ⟨_, rfl, ?_⟩; have hb6' := (Below.refl W5.heap.size W5).drew.trans hb6; have p0 := below_cell hb6' u0; have p1 := below_cell hb6' u1; have p2 := below_cell hb6' z0; have p3 := below_cell hb6' z1; have q0 := below_cell hb6' f0; have q1 := below_cell hb6' f1; have k2 := below_frozen hb6' (a := ⟨w.heap.size + 1, 0, none⟩) (by show w.heap.size + 1 < _; omega) k0; have k3 := below_frozen hb6' (a := ⟨w.heap.size + 1, 1, none⟩) (by show w.heap.size + 1 < _; omega) k1) | fail))
        all_goals
          have hB6 := H5.out.1.trans (hb6'.mono H5.out.1.size)
          have hr6 := (hb6'.block _ (by omega)).trans H5.out.2.1
          have hw6l : Win Step.cells 4 46 w6 (.slice a4 lw.length c4) (fun i => i ≠ w.heap.size + 1 ∧ w.heap.size ≤ i) lw := winC_move H5.out.2.2.1 (fr_of_below (S := fun _ => False) hb6') (fun _ _ h => h)
          have hE := line_end (k := k) hB6.size hB6 hr6 (by omega) hw6l (fun i hi => hi)
          have HE := Lib.hid (hE _ rfl)
          have hsp : Win Span.cells 2 50 ((w6.setCell ⟨w.heap.size + 1, 0, none⟩ (.int .i64 k)).setCell ⟨w.heap.size + 1, 1, none⟩ (.slice a4 lw.length c4)) (.slice a6 (diffOf k l lw).length c6) (fun i => w.heap.size ≤ i) (diffOf k l lw) := winC_mono (winC_move hw6 (stored2 w6 (w.heap.size + 1) _ _) (fun i hi h => by have h2 : i = w.heap.size + 1 := h; simp [drew_size] at hi; omega)) fun i hi => by have := H5.out.1.size; simp [drew_size] at hi; omega
          have HSP := Lib.hid hsp
          clear hE hB6 hr6 hw6l hsp p0 p1 p2 p3 q0 q1 k2 k3 hw6 hb6 hb6' u0 u1 z0 z1 f0 f1 k0 k1
          generalize (w6.setCell ⟨w.heap.size + 1, 0, none⟩ (.int .i64 k)).setCell ⟨w.heap.size + 1, 1, none⟩ (.slice a4 lw.length c4) = W7 at *
          have g0 := HE.out.1
          have g1 := HE.out.2.1
          go_wp2
          exact bodyPost_ret (v := .tuple #[.agg #[.int .i64 k, .slice a4 lw.length c4], .slice a6 (diffOf k l lw).length c6, .int .i64 0]) (by simp [results, Tryz.results27, go_sem, g0, g1]) rfl ⟨_, _, rfl, by (try rw [hwl]); exact HE.out.2.2.1, by (try rw [hwl]); exact HSP.out, HE.out.2.2.2⟩

      · have hxw := (Array.getElem?_eq_some_iff.1 yr).1
        refine named_store2 yr _ _ fun W5 hF5 u0 u1 hz5 => ?_
        clear yr y0 y1 k0 k1
        have hw4' : Win Step.cells 4 46 w4 (.slice a4 lw.length c4) (fun i => w3.heap.size ≤ i ∧ i < w4.heap.size ∧ ¬ i = w3.heap.size) lw := winC_mono (winC_block hw4) fun i hi => ⟨(hob i hi.2.1).1, hi.2.2, by have := hox i hi.2.1; omega⟩
        clear hox hsx
        have hBz := HB3.out.1.size
        have hB4 : Below w.heap.size w w4 := HB3.out.1.trans (hb34.mono hBz)
        have hs34 := hb34.size
        have hB6' : Below w.heap.size w W5 := hB4.trans (below_of_fr hF5 hB4.size fun i hi => by have h2 : i = w3.heap.size := hi; omega)
        have hr5 := (hF5.block (w.heap.size + 1) (by omega) (fun h => by have h2 : w.heap.size + 1 = w3.heap.size := h; omega)).trans ((hb34.block (w.heap.size + 1) (by omega)).trans HB3.out.2.1)
        have z0 := fr_cell hF5 r0 (fun h => by have h2 : w.heap.size = w3.heap.size := h; omega)
        have z1 := fr_cell hF5 r1 (fun h => by have h2 : w.heap.size = w3.heap.size := h; omega)
        have f0 := cell_blk hr5 0
        have f1 := cell_blk hr5 1
        have k0 := free_blk hr5 0
        have k1 := free_blk hr5 1
        have hw5' : Win Step.cells 4 46 W5 (.slice a4 lw.length c4) (fun i => i ≠ w.heap.size + 1 ∧ w.heap.size ≤ i) lw := winC_mono (winC_move hw4' hF5 (fun i hi h => hi.2.2 h)) fun i hi => ⟨by omega, by omega⟩
        have hDC := spans_any k _ _ l lw W5.drew ((HR.out.below hB6').below (Below.refl _ _).drew) ((win_rd step_len hw5').below (Below.refl _ _).drew) (by omega) (by omega) (lines_time HL.out HW.out)
        have H5 := Lib.hid (And.intro hB6' (And.intro hr5 (And.intro hw5' hDC)))
        clear hb34 hB6' hr5 hw4 hw4' hw5' hDC d0 d1 p0 p1 r0 r1 hF5 hB4 hw5 hb5 hb35 hf4 hob
        have hX : w.heap.size + 1 < w3.heap.size := by omega
        generalize w3.heap.size = X at *
        go_wp2

        have ED := Lib.hid (enters_of Tryz.func42 (by kernel_rfl) rfl)
        set_option maxRecDepth 10000 in
        go_region_held3 (fun W => W.cell? ⟨X, 0, none⟩ = some (.int .i64 k) ∧ W.cell? ⟨X, 1, none⟩ = some (.slice a4 lw.length c4) ∧ W.cell? ⟨w.heap.size, 0, none⟩ = some (.int .i64 k) ∧ W.cell? ⟨w.heap.size, 1, none⟩ = some (.slice a l.length c)) (first | exact ⟨u0, u1, z0, z1⟩ | exact ⟨p0, p1, p2, p3⟩ | exact ⟨fr_cell (stored2 w6 (w.heap.size + 1) _ _) p0 (fun h => by have h2 : X = w.heap.size + 1 := h; omega), fr_cell (stored2 w6 (w.heap.size + 1) _ _) p1 (fun h => by have h2 : X = w.heap.size + 1 := h; omega), fr_cell (stored2 w6 (w.heap.size + 1) _ _) p2 (fun h => by have h2 : w.heap.size = w.heap.size + 1 := h; omega), fr_cell (stored2 w6 (w.heap.size + 1) _ _) p3 (fun h => by have h2 : w.heap.size = w.heap.size + 1 := h; omega)⟩ | go_keep) ((first | (refine step_call (by rfl) 42 _ _ (by rfl) (ED.out) _ (by rfl) H5.out.2.2.2 ?_; rintro _ w6 ⟨v6, rfl, hw6, hb6⟩; obtain ⟨a6, c6, rfl, _, _⟩ := winC_slice hw6; refine ⟨_, rfl, ?_⟩; have hb6' := (Below.refl W5.heap.size W5).drew.trans hb6; have p0 := below_cell hb6' u0; have p1 := below_cell hb6' u1; have p2 := below_cell hb6' z0; have p3 := below_cell hb6' z1; have q0 := below_cell hb6' f0; have q1 := below_cell hb6' f1; have k2 := below_frozen hb6' (a := ⟨w.heap.size + 1, 0, none⟩) (by show w.heap.size + 1 < _; omega) k0; have k3 := below_frozen hb6' (a := ⟨w.heap.size + 1, 1, none⟩) (by show w.heap.size + 1 < _; omega) k1) | fail))
        all_goals
          have hB6 := H5.out.1.trans (hb6'.mono H5.out.1.size)
          have hr6 := (hb6'.block _ (by omega)).trans H5.out.2.1
          have hw6l : Win Step.cells 4 46 w6 (.slice a4 lw.length c4) (fun i => i ≠ w.heap.size + 1 ∧ w.heap.size ≤ i) lw := winC_move H5.out.2.2.1 (fr_of_below (S := fun _ => False) hb6') (fun _ _ h => h)
          have hE := line_end (k := k) hB6.size hB6 hr6 (by omega) hw6l (fun i hi => hi)
          have HE := Lib.hid (hE _ rfl)
          have hsp : Win Span.cells 2 50 ((w6.setCell ⟨w.heap.size + 1, 0, none⟩ (.int .i64 k)).setCell ⟨w.heap.size + 1, 1, none⟩ (.slice a4 lw.length c4)) (.slice a6 (diffOf k l lw).length c6) (fun i => w.heap.size ≤ i) (diffOf k l lw) := winC_mono (winC_move hw6 (stored2 w6 (w.heap.size + 1) _ _) (fun i hi h => by have h2 : i = w.heap.size + 1 := h; simp [drew_size] at hi; omega)) fun i hi => by have := H5.out.1.size; simp [drew_size] at hi; omega
          have HSP := Lib.hid hsp
          clear hE hB6 hr6 hw6l hsp p0 p1 p2 p3 q0 q1 k2 k3 hw6 hb6 hb6' u0 u1 z0 z1 f0 f1 k0 k1
          generalize (w6.setCell ⟨w.heap.size + 1, 0, none⟩ (.int .i64 k)).setCell ⟨w.heap.size + 1, 1, none⟩ (.slice a4 lw.length c4) = W7 at *
          have g0 := HE.out.1
          have g1 := HE.out.2.1
          go_wp2
          exact bodyPost_ret (v := .tuple #[.agg #[.int .i64 k, .slice a4 lw.length c4], .slice a6 (diffOf k l lw).length c6, .int .i64 0]) (by simp [results, Tryz.results27, go_sem, g0, g1]) rfl ⟨_, _, rfl, by (try rw [hwl]); exact HE.out.2.2.1, by (try rw [hwl]); exact HSP.out, HE.out.2.2.2⟩

end Go.Proofs.YtkoeplbkeboklaaGreat
