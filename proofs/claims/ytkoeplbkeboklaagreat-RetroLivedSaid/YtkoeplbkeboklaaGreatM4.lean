/- My texts of layer 14, joined: R36, R37, R38, Base6, R14, R29. -/
import Derived.Test.YtkoeplbkeboklaaGreatM3
import Derived.Deep.RegionHeld3
import Derived.Laws.CopyRow
import Derived.Lib.Overlaps
/- retro.Takes. -/
set_option linter.unusedVariables false
set_option linter.unusedSimpArgs false
namespace Go.Proofs.YtkoeplbkeboklaaGreat
open Go.RowKit Go.Shelf
attribute [local go_sem] Oper.semAt_some
set_option maxHeartbeats 4000000 in
theorem rTakes_any (k : Int) (v : Value) (l : List Step) (w : World) (hr : Rd Step.cells 4 w v l) :
    Calls Tryz.prog 5 #[.agg #[.int .i64 k, v]] w fun e w' => ∃ v', e = .returned (.tuple #[v', .int .i64 (takesP k l).2]) ∧ Win Span.cells 2 50 w' v' (fun i => w.heap.size ≤ i) (takesP k l).1 ∧ Below w.heap.size w w' := by
  obtain ⟨a, c, rfl⟩ : ∃ a c, v = .slice a l.length c := by obtain ⟨_, a, c, rfl, _⟩ := hr; exact ⟨a, c, rfl⟩
  have HR := Lib.hid hr
  have HBL := Lib.hid (fun o => (Below.refl w.heap.size w).alloc (Nat.le_refl _) o)
  have HC := Lib.hid (fun o => isLine_any k _ l _ (hr.below ((Below.refl w.heap.size w).alloc (Nat.le_refl _) o)))
  clear hr
  have h57 : Fence.wide.fn 16 := trivial
  have h54 : Fence.wide.fn 14 := trivial
  cases hl : isLineP k l with
  | false =>
    have hat : takesP k l = ([], 2) := by simp [takesP, hl]
    rw [hat]
    rw [hl] at HC
    clear hat hl
    refine (callsIn_wide (n := 3)).1 ?_
    refine callsIn_of_wp_marks Tryz.func5 rfl trivial ?_ rfl
    simp only [Tryz.ntmps5, List.size_toArray, List.length_cons, List.length_nil, Nat.reduceAdd, Nat.reduceSub, Array.replicate_succ, Array.replicate_zero, List.push_toArray, List.append_toArray, List.nil_append, List.cons_append]
    gi_wp2_with (gi_at_call 14; refine (callsIn_wide.2 (HC.out _)).mono ?_; rintro e w1 ⟨rfl, hb1⟩)
    exact ⟨.tuple #[.slice none 0 0, .int .i64 2], by simp [results, Tryz.results5, go_sem], _, rfl, winC_nil _ _ _ _, (HBL.out _).trans (hb1.mono (by simp))⟩
  | true =>
    have hat : takesP k l = (takesOf k l, 0) := by simp [takesP, hl]
    rw [hat]
    rw [hl] at HC
    have HL := Lib.hid hl
    have hlen := line_len hl
    clear hat hl
    refine (callsIn_wide (n := 3)).1 ?_
    refine callsIn_of_wp_marks Tryz.func5 rfl trivial ?_ rfl
    simp only [Tryz.ntmps5, List.size_toArray, List.length_cons, List.length_nil, Nat.reduceAdd, Nat.reduceSub, Array.replicate_succ, Array.replicate_zero, List.push_toArray, List.append_toArray, List.nil_append, List.cons_append]
    gi_wp2_with (first | (gi_at_call 14; refine (callsIn_wide.2 (HC.out _)).mono ?_; rintro e w1 ⟨rfl, hb1⟩; have d0 : w1.cell? ⟨w.heap.size, 0, none⟩ = some (.int .i64 k) := below_cell hb1 (World.cell?_alloc_new w #[.int .i64 k, .slice a l.length c] 25 0); have d1 : w1.cell? ⟨w.heap.size, 1, none⟩ = some (.slice a l.length c) := below_cell hb1 (World.cell?_alloc_new w #[.int .i64 k, .slice a l.length c] 25 1); have e0 := fun o => below_cell ((Below.refl w1.heap.size w1).alloc (Nat.le_refl _) o) d0; have e1 := fun o => below_cell ((Below.refl w1.heap.size w1).alloc (Nat.le_refl _) o) d1) | (gi_at_call 16; refine (callsIn_wide.2 (done_any k _ _)).mono ?_; rintro e w2 ⟨rfl, rfl⟩))
    have hB1 : Below w.heap.size w w1 := (HBL.out _).trans (hb1.mono (by simp))
    have hz1 : w.heap.size + 1 ≤ w1.heap.size := by have := hb1.size; simpa using this
    refine named_box2 w1 _ _ _ _ fun Wp hbp hzp hx0 hx1 => ?_
    have hzp1 := Nat.le_of_eq hzp
    have hzp2 := Nat.le_of_eq hzp.symm
    clear hzp
    refine range_wide (by rfl) (enters_of Tryz.func35 (by kernel_rfl) rfl) ?_
    intro fn W1 hbW hzW hD hL1
    have hzW1 := Nat.le_of_eq hzW
    have hzW2 := Nat.le_of_eq hzW.symm
    clear hzW
    obtain ⟨REC, hREC, hL2⟩ : ∃ REC, REC = _ ∧ W1.heap[Wp.heap.size + 1]? = some (.loop REC) := ⟨_, rfl, hL1⟩
    have hob := (hbW.block w1.heap.size (by omega)).trans hx0
    have hln := (hbW.block (w1.heap.size + 1) (by omega)).trans hx1
    have hBW : Below w.heap.size w W1 := (hB1.trans (hbp.mono (by omega))).trans (hbW.mono (by omega))
    have hrd := HR.out.below hBW
    have hrb : ∀ i, some i = (Value.slice a l.length c).ownBlock → l = [] ∨ i < w.heap.size := fun i hi => by
      rcases Nat.eq_zero_or_pos l.length with h0 | h0
      · exact .inl (List.eq_nil_of_length_eq_zero h0)
      · obtain ⟨_, a', c', he, hh⟩ := HR.out
        obtain ⟨b, off, rfl, hb, _⟩ := hh h0
        injection he with he1
        subst he1
        simp [Value.ownBlock] at hi
        exact .inr (hi ▸ hb)
    have hcell : W1.cell? ⟨w1.heap.size, 0, none⟩ = some (.slice none 0 0) := cell_blk hob 0
    have hfz := free_blk hob 0
    obtain ⟨J, hJ⟩ : ∃ J : Nat → (Nat → Prop) → World → Prop, ∀ i S W, J i S W ↔ ∃ (a1 : Option Addr) (out : List Span) (c1 : Nat), W.cell? ⟨w1.heap.size, 0, none⟩ = some (.slice a1 out.length c1) ∧ W.frozen? ⟨w1.heap.size, 0, none⟩ = false ∧ Win Span.cells 2 50 W (.slice a1 out.length c1) (fun j => W1.heap.size ≤ j ∧ ¬ S j) out ∧ out ++ takesFrom k (thP k l i) (l.drop i) = takesOf k l ∧ out.length ≤ i ∧ W.heap[Wp.heap.size + 1]? = some (.loop REC) ∧ W.heap[Wp.heap.size]? = some (.deferred (some [])) ∧ Below w.heap.size w W ∧ W1.heap.size ≤ W.heap.size := ⟨_, fun _ _ _ => Iff.rfl⟩
    refine (done1_in 1 (Wp.heap.size + 1) (w1.heap.size + 1) k a c l (by omega) W1 (fun j => j = w1.heap.size ∨ j = Wp.heap.size + 1)
      J
      hln hrd (fun h => by rcases h with h | h <;> omega) (fun i hi => (hrb i hi).imp id fun h h2 => by rcases h2 with h2 | h2 <;> omega) ((hJ _ _ _).2 ⟨none, [], 0, hcell, hfz, winC_nil _ _ _ _, rfl, by simp, hL2, hD, hBW, Nat.le_refl _⟩) ?_ ?_).mono ?_
    · rintro i S S' W W' hj hF hS' hS
      obtain ⟨a1, out, c1, j1, j2, j3, j4, j5, j6, j7, j8, j9⟩ := (hJ _ _ _).1 hj
      have ne : ∀ j, j < W1.heap.size → ¬ S j := fun j hj h => by have := hS j h; omega
      refine (hJ _ _ _).2 ⟨a1, out, c1, fr_cell hF j1 (ne _ (by show w1.heap.size < _; omega)), fr_frozen hF (by show w1.heap.size < _; omega) j2 (ne _ (by show w1.heap.size < _; omega)), winC_mono (winC_move (winC_block j3) hF fun i hi h => hi.2.1.2 h) fun i hi => ⟨hi.2.1.1, fun h => ?_⟩, j4, j5, (hF.block _ (by omega) (ne _ (by omega))).trans j6, (hF.block _ (by omega) (ne _ (by omega))).trans j7, j8.trans (below_of_fr hF j8.size fun i hi => by have := hS i hi; omega), Nat.le_trans j9 hF.size⟩
      rcases hS' i h with h | h
      · exact hi.2.1.2 h
      · have := hi.2.2; omega
    · rintro i s S W hx hj hSS hsW
      have hSL := Lib.hid hSS
      clear hSS
      obtain ⟨a1, out, c1, j1, j2, j3, j4, j5, j6, j7, j8, j9⟩ := (hJ _ _ _).1 hj
      have HJI := Lib.hid hJ
      clear hj hJ
      have hst : 0 < i ∨ i = 0 := by omega
      refine yield_wide j6 (by rw [hREC]; rfl) ?_
      have HJ := Lib.hid (And.intro j3 (And.intro j4 (And.intro j6 (And.intro j7 (And.intro j8 (And.intro hx hREC))))))
      have hil : i < l.length := (List.getElem?_eq_some_iff.1 hx).1
      clear j3 j4 j6 j7 j8 hx hob hln hD hL1 hL2
      generalize hg : (doP k (thP k l i) s).2 = g
      rw [hREC]
      simp only [List.zip_toArray, List.zip_cons_cons, List.zip_nil_left, List.zip_nil_right, List.foldl_toArray, List.foldl_cons, List.foldl_nil, List.setIfInBounds_toArray, List.set_cons_succ, List.set_cons_zero]
      gi_wp2
      generalize hWq : (W.alloc _).alloc _ = Wq
      obtain ⟨hbq, hzq, hy0, hy1⟩ := two_box hWq
      clear hWq
      refine ⟨REC, (hbq.block _ (by omega)).trans HJ.out.2.2.1, by rw [HJ.out.2.2.2.2.2.2], ?_⟩
      refine named_put (by omega) fun W2 hF2 hL2 hz2 => ?_
      have hFq : Fr (fun i => i = Wp.heap.size + 1) W W2 := fr_trans (fr_of_below hbq) hF2 fun _ _ h => h
      have o0 := fr_cell hFq j1 (by show ¬ w1.heap.size = _; omega)
      have of0 := fr_frozen hFq (by show w1.heap.size < _; omega) j2 (by show ¬ w1.heap.size = _; omega)
      have s0 : W2.cell? ⟨W.heap.size, 0, none⟩ = some (.int .i64 s.at_) := fr_cell hF2 (cell_blk hy0 0) (by show ¬ W.heap.size = _; omega)
      have s1 : W2.cell? ⟨W.heap.size, 1, none⟩ = some (.int .i64 s.do_) := fr_cell hF2 (cell_blk hy0 1) (by show ¬ W.heap.size = _; omega)
      have g1 : W2.cell? ⟨W.heap.size + 1, 2, none⟩ = some (.int .i64 g.from_) := fr_cell hF2 (cell_blk hy1 2) (by show ¬ W.heap.size + 1 = _; omega)
      have hzq1 : W.heap.size + 2 ≤ W2.heap.size := by omega
      have HQ := Lib.hid (And.intro hFq (And.intro hL2 hREC))
      have HF := Lib.hid of0
      clear hbq hy0 hy1 hF2 hL2 hFq hREC j1 j2 of0 hzq hz2
      have hwo := winC_move (winC_block HJ.out.1) HQ.out.1 fun i hi h => by have := hi.2.1.1; omega
      have hob2 : ∀ i, some i = (Value.slice a1 out.length c1).ownBlock → W1.heap.size ≤ i ∧ i < W.heap.size := fun i hi => by have := (winC_ob hwo i hi); exact ⟨this.1.2.1.1, this.1.2.2⟩
      have HWO := Lib.hid (And.intro hwo hob2)
      clear hwo hob2
      by_cases hd : s.do_ = 2
      · have hdb : (s.do_ == 2) = true := by simp [hd]
        have HD := Lib.hid hd
        clear hd
        gi_wp2_with (gi_at_builtin; ((refine wpListIn_append_win _ (by rfl) _ _ _ (by rfl) 50 2 16 _ Tryz.underlying30 info_span rfl (by decide) _ _ out.length _ (by rfl) (winC_move HWO.out.1 (fr_alloc (fun _ => False) W2 (.cells #[.int .i64 g.from_, .int .i64 s.at_] 50)) fun _ _ h => h) _ _ _ [.int .i64 g.from_, .int .i64 s.at_] (by rfl) (by rfl) (World.news_of_block (heap_alloc_new W2 _)) (by simp [Value.oneCell']) (by decide) (by unfold maxLen; omega) (by omega) ?_); intro v3 w3 hwin3 hfr3 hsz3; obtain ⟨a4, c4, rfl, hn4, hm4⟩ := winC_slice hwin3; have F3 : Fr (fun i => some i = (Value.slice a1 out.length c1).ownBlock) W2 w3 := fr_trans (fr_alloc _ W2 _) hfr3 fun _ _ h => h; have of3 := fr_frozen F3 (show w1.heap.size < W2.heap.size by omega) HF.out (fun h => by have : W1.heap.size ≤ w1.heap.size := (HWO.out.2 _ h).1; omega); have o3 := fr_cell F3 o0 (fun h => by have : W1.heap.size ≤ w1.heap.size := (HWO.out.2 _ h).1; omega); have H3 := Lib.hid F3; clear F3 hfr3))
        have hyp := HQ.out
        have hne : ∀ i, some i = (Value.slice a1 out.length c1).ownBlock → W1.heap.size ≤ i ∧ i < W.heap.size := HWO.out.2
        have htk : out ++ ((if s.do_ = 2 then [⟨g.from_, s.at_⟩] else []) ++ takesFrom k (thP k l (i+1)) (l.drop (i+1))) = takesOf k l := by rw [thP_succ HJ.out.2.2.2.2.2.1, ← hg, ← takesFrom_drop HJ.out.2.2.2.2.2.1]; exact HJ.out.2.1
        have hF3 := H3.out
        have o4 := World.cell?_setCell_same w3 _ (.slice a4 (out.length + 1) c4) o3
        have of4 : (w3.setCell ⟨w1.heap.size, 0, none⟩ (.slice a4 (out.length + 1) c4)).frozen? ⟨w1.heap.size, 0, none⟩ = false := (World.frozen?_setCell _ _ _ _).trans of3
        have hF4 : Fr (fun i => (some i = (Value.slice a1 out.length c1).ownBlock) ∨ i = w1.heap.size) W2 (w3.setCell ⟨w1.heap.size, 0, none⟩ (.slice a4 (out.length + 1) c4)) := fr_trans (fr_mono hF3 fun i h => .inl h) (fr_setCell w3 _ _) fun i _ h => .inr h
        have hw4 := winC_move hwin3 (fr_setCell w3 ⟨w1.heap.size, 0, none⟩ (.slice a4 (out.length + 1) c4)) fun i hi (h : i = w1.heap.size) => by
          rcases hi with hi | hi
          · have := hi.1.2.1.1; omega
          · simp at hi; omega
        generalize w3.setCell ⟨w1.heap.size, 0, none⟩ (.slice a4 (out.length + 1) c4) = w4 at *
        have hL4 := (hF4.block (Wp.heap.size + 1) (by omega) (fun h => by rcases h with h | h; have := (hne _ h).1; omega; omega)).trans hyp.2.1
        have hs4 := hF4.size
        have hz2w : Wp.heap.size + 1 < w4.heap.size := by omega
        refine round_end hL4 fun W5 hF5 hL5 hz5 => ?_
        have hF45 : Fr (fun i => (some i = (Value.slice a1 out.length c1).ownBlock) ∨ i = w1.heap.size ∨ i = Wp.heap.size + 1) W W5 := fr_trans (fr_trans (fr_mono hyp.1 fun i h => .inr (.inr h)) hF4 fun i _ h => h.imp id fun h => .inl h) hF5 fun i _ h => .inr (.inr h)
        have hD5 := (hF45.block Wp.heap.size (by omega) (fun h => by rcases h with h | h | h; have := (hne _ h).1; omega; omega; omega)).trans HJ.out.2.2.2.1
        refine ⟨rfl, (HJI.out _ _ _).2 ⟨a4, out ++ [⟨g.from_, s.at_⟩], c4, ?_, fr_frozen hF5 (by show w1.heap.size < _; omega) of4 (by show ¬ w1.heap.size = _; omega), ?_, ?_, by simp; omega, hL5.trans (by rw [hyp.2.2]), hD5, HJ.out.2.2.2.2.1.trans (below_of_fr hF45 (by omega) fun i hi => by rcases hi with h | h | h; have := (hne _ h).1; omega; omega; omega), by omega⟩, fr_mono hF45 fun i h => ?_⟩
        · have := fr_cell hF5 o4 (by show ¬ w1.heap.size = _; omega)
          simpa using this
        · have hw5 := winC_move hw4 hF5 fun i hi (h : i = Wp.heap.size + 1) => by
            rcases hi with hi | hi
            · have := hi.1.2.1.1; omega
            · simp at hi; omega
          have hw6 : WinC 2 50 W5 (.slice a4 (out.length + 1) c4) (fun j => W1.heap.size ≤ j ∧ ¬ S j) (out.length + 1) (out.flatMap Span.cells ++ [.int .i64 g.from_, .int .i64 s.at_]) := winC_mono hw5 fun i hi => by
            rcases hi with hi | hi
            · exact hi.1.2.1
            · simp at hi; exact ⟨by omega, fun h => by have := hSL.out _ h; omega⟩
          simpa [Win, Span.cells] using hw6
        · rw [← htk, if_pos HD.out]; simp
        · rcases h with h | h | h
          · have := winC_ob HJ.out.1 _ h
            exact ⟨this.1.2, .inr this.1.1⟩
          · exact ⟨fun hs => by have := hSL.out _ hs; omega, .inl (.inl h)⟩
          · exact ⟨fun hs => by have := hSL.out _ hs; omega, .inl (.inr h)⟩
      · have hdb : (s.do_ == 2) = false := by simp [hd]
        have HD := Lib.hid hd
        clear hd
        gi_wp2
        have hyp := HQ.out
        have hne : ∀ i, some i = (Value.slice a1 out.length c1).ownBlock → W1.heap.size ≤ i ∧ i < W.heap.size := HWO.out.2
        have htk : out ++ ((if s.do_ = 2 then [⟨g.from_, s.at_⟩] else []) ++ takesFrom k (thP k l (i+1)) (l.drop (i+1))) = takesOf k l := by rw [thP_succ HJ.out.2.2.2.2.2.1, ← hg, ← takesFrom_drop HJ.out.2.2.2.2.2.1]; exact HJ.out.2.1
        have hz2w : Wp.heap.size + 1 < W2.heap.size := by omega
        refine round_end hyp.2.1 fun W5 hF5 hL5 hz5 => ?_
        have hF45 : Fr (fun i => i = Wp.heap.size + 1) W W5 := fr_trans hyp.1 hF5 fun i _ h => h
        have hD5 := (hF45.block Wp.heap.size (by omega) (by omega)).trans HJ.out.2.2.2.1
        refine ⟨rfl, (HJI.out _ _ _).2 ⟨a1, out, c1, fr_cell hF5 o0 (by show ¬ w1.heap.size = _; omega), fr_frozen hF5 (by show w1.heap.size < _; omega) HF.out (by show ¬ w1.heap.size = _; omega), ?_, ?_, by omega, hL5.trans (by rw [hyp.2.2]), hD5, HJ.out.2.2.2.2.1.trans (below_of_fr hF45 (by omega) fun i hi => by omega), by omega⟩, fr_mono hF45 fun i h => ?_⟩
        · exact winC_mono (winC_move HWO.out.1 hF5 fun i hi (h : i = Wp.heap.size + 1) => by have := hi.2.1.1; omega) fun i hi => hi.2.1
        · rw [← htk, if_neg HD.out]; simp
        · exact ⟨fun hs => by have := hSL.out _ hs; omega, .inl (.inr h)⟩
    · rintro e W2 ⟨⟨v2, rfl⟩, S, hj, hS, hsz⟩
      obtain ⟨a1, out, c1, j1, j2, j3, j4, j5, j6, j7, j8, j9⟩ := (hJ _ _ _).1 hj
      clear hj hJ
      have hlast : out = takesOf k l := by simpa [takesFrom] using j4
      subst hlast
      have HJ := Lib.hid (And.intro j3 (And.intro j7 (And.intro j8 hL2)))
      refine ⟨_, _, run_endLoop j6 (by rw [hREC]; simp), ?_⟩
      have HRE := Lib.hid hREC
      rw [hREC]
      clear j3 j4 j7 j8 hREC hL2 hL1 hob hln hD hrd hrb hcell hfz
      dsimp only
      refine named_put (by omega) fun W5 hF5 hL5 hz5 => ?_
      have o5 := fr_cell hF5 j1 (by show ¬ w1.heap.size = _; omega)
      gi_wp2
      have hK := (hF5.block Wp.heap.size (by omega) (by show ¬ Wp.heap.size = _; omega)).trans HJ.out.2.1
      refine ⟨by simp, .inl ⟨_, _, rfl, run_takeDeferred hK, ?_⟩⟩
      have hF6 : Fr (fun i => i = Wp.heap.size + 1 ∨ i = Wp.heap.size) W2 (W5.putObj Wp.heap.size (.deferred none)) := fr_trans (fr_mono hF5 fun i h => .inl h) (fr_putObj W5 _ _) fun i _ h => .inr h
      exact ⟨.tuple #[.slice a1 (takesOf k l).length c1, .int .i64 0], by simp [results, Tryz.results5, go_sem], _, rfl, winC_mono (winC_move HJ.out.1 hF6 fun i hi h => by have := hi.1; rcases h with h | h <;> omega) fun i hi => by have := hi.1; omega, HJ.out.2.2.1.trans (below_of_fr hF6 (by have := HJ.out.2.2.1.size; omega) fun i hi => by rcases hi with h | h <;> omega)⟩
end Go.Proofs.YtkoeplbkeboklaaGreat
/- retro.lives, retro.Lives. -/
set_option linter.unusedVariables false
set_option linter.unusedSimpArgs false
namespace Go.Proofs.YtkoeplbkeboklaaGreat
open Go.RowKit Go.Shelf
attribute [local go_sem] Oper.semAt_some
theorem region_held_round {P : Program} {n L id : Nat} {Q : Exit → Act → World → Prop} {a : Act} {w : World} {l : List Oper} (S : World → Prop) (hm : P.follows .mixedOrders = true) (hlo : ¬ LetsOut Q) (hd : l.toArray.all noDef = true) (hS : S w.drew)
    (h : S w.drew → wpAnyH P .any l.toArray Q S l.toArray.size (Array.replicate l.toArray.size false) a w.drew) : (Code.region id l.toArray true).wpIn (Fence.wide.inRound L) n P Q a w :=
  wpIn_region_any hm (wpAnyIn_of_wpAny hlo (noDefer hd) _ _ _ _ (wpAny_of_held _ _ _ _ (h hS)))
set_option maxHeartbeats 4000000 in
theorem rlives_any (k : Int) (v : Value) (l : List Step) (w : World) (hr : Rd Step.cells 4 w v l) (hl : isLineP k l = true) :
    Calls Tryz.prog 15 #[.agg #[.int .i64 k, v]] w fun e w' => ∃ v', e = .returned v' ∧ Win Life.cells 4 41 w' v' (fun i => w.heap.size ≤ i) (livesOf k l) ∧ Below w.heap.size w w' := by
  obtain ⟨a, c, rfl⟩ : ∃ a c, v = .slice a l.length c := by obtain ⟨_, a, c, rfl, _⟩ := hr; exact ⟨a, c, rfl⟩
  have HR := Lib.hid hr
  have HL := Lib.hid hl
  have hlen := line_len hl
  clear hr hl
  have h57 : Fence.wide.fn 16 := trivial
  have hcame : Fence.wide.fn 34 := trivial
  refine (callsIn_wide (n := 3)).1 ?_
  refine callsIn_of_wp_marks Tryz.func15 rfl trivial ?_ rfl
  simp only [Tryz.ntmps15, List.size_toArray, List.length_cons, List.length_nil, Nat.reduceAdd, Nat.reduceSub, Array.replicate_succ, Array.replicate_zero, List.push_toArray, List.append_toArray, List.nil_append, List.cons_append]
  gi_wp2_with (gi_at_call 16; refine (callsIn_wide.2 (done_any k _ _)).mono ?_; rintro e w2 ⟨rfl, rfl⟩)
  refine named_box3 w _ _ _ _ _ _ fun Wp hbp hzp hx0 hx1 hx2 => ?_
  have hzp1 := Nat.le_of_eq hzp
  have hzp2 := Nat.le_of_eq hzp.symm
  clear hzp
  refine range_wide (by rfl) (enters_of Tryz.func35 (by kernel_rfl) rfl) ?_
  intro fn W1 hbW hzW hD hL1
  have hzW1 := Nat.le_of_eq hzW
  have hzW2 := Nat.le_of_eq hzW.symm
  clear hzW
  obtain ⟨REC, hREC, hL2⟩ : ∃ REC, REC = _ ∧ W1.heap[Wp.heap.size + 1]? = some (.loop REC) := ⟨_, rfl, hL1⟩
  have hob := (hbW.block (w.heap.size + 1) (by omega)).trans hx1
  have hln := (hbW.block (w.heap.size + 1 + 1) (by omega)).trans hx2
  have hBW : Below w.heap.size w W1 := hbp.trans (hbW.mono (by omega))
  have hrd := HR.out.below hBW
  have hrb : ∀ i, some i = (Value.slice a l.length c).ownBlock → l = [] ∨ i < w.heap.size := fun i hi => by
    rcases Nat.eq_zero_or_pos l.length with h0 | h0
    · exact .inl (List.eq_nil_of_length_eq_zero h0)
    · obtain ⟨_, a', c', he, hh⟩ := HR.out
      obtain ⟨b, off, rfl, hb, _⟩ := hh h0
      injection he with he1
      subst he1
      simp [Value.ownBlock] at hi
      exact .inr (hi ▸ hb)
  have hcell : W1.cell? ⟨w.heap.size + 1, 0, none⟩ = some (.slice none 0 0) := cell_blk hob 0
  have hfz := free_blk hob 0
  generalize hBo : w.heap.size + 1 = Bo at *
  obtain ⟨J, hJ⟩ : ∃ J : Nat → (Nat → Prop) → World → Prop, ∀ i S W, J i S W ↔ ∃ (a1 : Option Addr) (out : List Life) (c1 : Nat), W.cell? ⟨Bo, 0, none⟩ = some (.slice a1 out.length c1) ∧ W.frozen? ⟨Bo, 0, none⟩ = false ∧ Win Life.cells 4 41 W (.slice a1 out.length c1) (fun j => W1.heap.size ≤ j ∧ ¬ S j) out ∧ livesFrom k (thP k l i) out (l.drop i) = livesOf k l ∧ out.length ≤ i ∧ W.heap[Wp.heap.size + 1]? = some (.loop REC) ∧ W.heap[Wp.heap.size]? = some (.deferred (some [])) ∧ Below w.heap.size w W ∧ W1.heap.size ≤ W.heap.size := ⟨_, fun _ _ _ => Iff.rfl⟩
  refine (done1_in 1 (Wp.heap.size + 1) (Bo + 1) k a c l (by omega) W1 (fun j => j = Bo ∨ j = Wp.heap.size + 1) J
    hln hrd (fun h => by rcases h with h | h <;> omega) (fun i hi => (hrb i hi).imp id fun h h2 => by rcases h2 with h2 | h2 <;> omega) ((hJ _ _ _).2 ⟨none, [], 0, hcell, hfz, winC_nil _ _ _ _, rfl, by simp, hL2, hD, hBW, Nat.le_refl _⟩) ?_ ?_).mono ?_
  · rintro i S S' W W' hj hF hS' hS
    obtain ⟨a1, out, c1, j1, j2, j3, j4, j5, j6, j7, j8, j9⟩ := (hJ _ _ _).1 hj
    have ne : ∀ j, j < W1.heap.size → ¬ S j := fun j hj h => by have := hS j h; omega
    refine (hJ _ _ _).2 ⟨a1, out, c1, fr_cell hF j1 (ne _ (by show Bo < _; omega)), fr_frozen hF (by show Bo < _; omega) j2 (ne _ (by show Bo < _; omega)), winC_mono (winC_move (winC_block j3) hF fun i hi h => hi.2.1.2 h) fun i hi => ⟨hi.2.1.1, fun h => ?_⟩, j4, j5, (hF.block _ (by omega) (ne _ (by omega))).trans j6, (hF.block _ (by omega) (ne _ (by omega))).trans j7, j8.trans (below_of_fr hF j8.size fun i hi => by have := hS i hi; omega), Nat.le_trans j9 hF.size⟩
    rcases hS' i h with h | h
    · exact hi.2.1.2 h
    · have := hi.2.2; omega
  · rintro i s S W hx hj hSS hsW
    have hSL := Lib.hid hSS
    clear hSS
    obtain ⟨a1, out, c1, j1, j2, j3, j4, j5, j6, j7, j8, j9⟩ := (hJ _ _ _).1 hj
    have HJI := Lib.hid hJ
    clear hj hJ
    refine yield_wide j6 (by rw [hREC]; rfl) ?_
    have HJ := Lib.hid (And.intro j3 (And.intro j4 (And.intro j6 (And.intro j7 (And.intro j8 (And.intro hx hREC))))))
    have hil : i < l.length := (List.getElem?_eq_some_iff.1 hx).1
    clear j3 j4 j6 j7 j8 hx hob hln hD hL1 hL2 hcell hfz hx0 hx1 hx2 hrb hrd
    generalize hg : (doP k (thP k l i) s).2 = g
    have HG := Lib.hid hg
    clear hg
    rw [hREC]
    simp only [List.zip_toArray, List.zip_cons_cons, List.zip_nil_left, List.zip_nil_right, List.foldl_toArray, List.foldl_cons, List.foldl_nil, List.setIfInBounds_toArray, List.set_cons_succ, List.set_cons_zero]
    gi_wp2
    generalize hWq : (W.alloc _).alloc _ = Wq
    obtain ⟨hbq, hzq, hy0, hy1⟩ := two_box hWq
    clear hWq
    refine ⟨REC, (hbq.block _ (by omega)).trans HJ.out.2.2.1, by rw [HJ.out.2.2.2.2.2.2], ?_⟩
    refine named_put (by omega) fun W2 hF2 hL2 hz2 => ?_
    have hFq : Fr (fun i => i = Wp.heap.size + 1) W W2 := fr_trans (fr_of_below hbq) hF2 fun _ _ h => h
    have o0 := fr_cell hFq j1 (by show ¬ Bo = _; omega)
    have of0 := fr_frozen hFq (by show Bo < _; omega) j2 (by show ¬ Bo = _; omega)
    have s0 : W2.cell? ⟨W.heap.size, 0, none⟩ = some (.int .i64 s.at_) := fr_cell hF2 (cell_blk hy0 0) (by show ¬ W.heap.size = _; omega)
    have s1 : W2.cell? ⟨W.heap.size, 1, none⟩ = some (.int .i64 s.do_) := fr_cell hF2 (cell_blk hy0 1) (by show ¬ W.heap.size = _; omega)
    have s2 : W2.cell? ⟨W.heap.size, 2, none⟩ = some (.int .i64 s.key) := fr_cell hF2 (cell_blk hy0 2) (by show ¬ W.heap.size = _; omega)
    have s3 : W2.cell? ⟨W.heap.size, 3, none⟩ = some (.int .i64 s.val) := fr_cell hF2 (cell_blk hy0 3) (by show ¬ W.heap.size = _; omega)
    have g1 : W2.cell? ⟨W.heap.size + 1, 2, none⟩ = some (.int .i64 g.from_) := fr_cell hF2 (cell_blk hy1 2) (by show ¬ W.heap.size + 1 = _; omega)
    have hzq1 : W.heap.size + 2 ≤ W2.heap.size := by omega
    have HQ := Lib.hid (And.intro hFq (And.intro hL2 hREC))
    have HF := Lib.hid of0
    clear hbq hy0 hy1 hF2 hL2 hFq hREC j1 j2 of0 hzq hz2
    have hwo := winC_move (winC_block HJ.out.1) HQ.out.1 fun i hi h => by have := hi.2.1.1; omega
    have hob2 : ∀ i, some i = (Value.slice a1 out.length c1).ownBlock → W1.heap.size ≤ i ∧ i < W.heap.size := fun i hi => by have := (winC_ob hwo i hi); exact ⟨this.1.2.1.1, this.1.2.2⟩
    have HWO := Lib.hid (And.intro hwo hob2)
    clear hwo hob2
    generalize hX : W.heap.size = X at *
    gi_wp2
    have mixed : (Tryz.prog).follows .mixedOrders = true := by kernel_rfl
    gi_loopw [13] (fun i Wr => ∃ (m : Nat), i = .int .i64 m ∧ m ≤ out.length ∧ Win Life.cells 4 41 Wr (.slice a1 out.length c1) (fun i => some i = (Value.slice a1 out.length c1).ownBlock ∧ (W1.heap.size ≤ i ∧ ¬ S i) ∧ i < X) ((out.take m).map (closeL g.from_ s.at_) ++ out.drop m) ∧ Fr (fun i => some i = (Value.slice a1 out.length c1).ownBlock) W2 Wr) (fun i _ => out.length - (intOf i).toNat)
    case atStart => exact ⟨0, rfl, by omega, HWO.out.1, fr_refl _ _⟩
    case round =>
      obtain ⟨m, rfl, hml, hwx, hF⟩ := hrel
      have r0 := fr_cell hF o0 (fun h => by have := (HWO.out.2 Bo h).1; omega)
      have rs0 := fr_cell hF s0 (fun h => by have := (HWO.out.2 X h).2; omega)
      have rg1 := fr_cell hF g1 (fun h => by have := (HWO.out.2 (X + 1) h).2; omega)
      by_cases hlt2 : m < out.length
      · have hx := List.getElem?_eq_getElem hlt2
        generalize out[m] = x at hx
        obtain ⟨hget, hset⟩ := close_step (closeL g.from_ s.at_) hx
        have hlen2 : ((out.take m).map (closeL g.from_ s.at_) ++ out.drop m).length = out.length := by simp; omega
        obtain ⟨b2, o2, rfl, hbl2, hc⟩ := rd_at (win_rd life_len hwx) hget
        have q0 : wr.cell? ⟨b2, o2 + m * 4, none⟩ = some (.int .i64 x.from_) := hc 0 _ rfl
        have q1 := hc 1 _ rfl
        by_cases hxf : x.from_ = g.from_
        · have hxb : (x.from_ == g.from_) = true := by simp [hxf]
          have hcl : closeL g.from_ s.at_ x = { x with to_ := s.at_ } := by simp [closeL, hxf]
          have HW := Lib.hid (And.intro hwx (And.intro hset (And.intro hF (And.intro hx (And.intro hget (And.intro hlen2 hcl))))))
          clear hxf hcl hset hget hwx hF hx hc hlen2
          gi_wp2
          refine region_quiet_round mixed (by rintro ⟨_, _, h⟩; exact h) (by kernel_rfl) (by kernel_rfl) ?_
          repeat (go_big_quiet_step (fail))
          refine wpQuiet_nil ?_
          rintro _ ⟨nq, rfl⟩

          have hw := win_set life_len (winC_move HW.out.1 (fr_drewN (fun _ => False) wr nq) (fun _ _ h => h)) HW.out.2.2.2.2.2.1 HW.out.2.2.2.2.1 (show 1 < 4 by omega) (y := closeL g.from_ s.at_ x) (u := .int .i64 s.at_) (by rw [HW.out.2.2.2.2.2.2]; rfl)
          have kf := hw.2.2
          have HW2 := Lib.hid hw.1
          clear hw
          gi_wp2
          go_roundw
          case rel => exact ⟨m + 1, by go_num, by omega, by have h := HW2.out; rw [HW.out.2.1] at h; exact h, fr_trans HW.out.2.2.1 (fr_trans (fr_drewN (fun i => i = b2) wr nq) (fr_setCell (wr.drewN nq) _ _) fun i _ h => h) fun i _ (h : i = b2) => by rw [h]; rfl⟩
          case measure => simp [intOf]; omega
        · have hxb : (x.from_ == g.from_) = false := by simp [hxf]
          have hcl : closeL g.from_ s.at_ x = x := by simp [closeL, hxf]
          have HW := Lib.hid (And.intro hwx (And.intro (close_same hx hcl) hF))
          clear hxf hcl hset hget hwx hF hx hc hlen2
          gi_wp2
          refine region_quiet_round mixed (by rintro ⟨_, _, h⟩; exact h) (by kernel_rfl) (by kernel_rfl) ?_
          repeat (go_big_quiet_step (fail))
          refine wpQuiet_nil ?_
          rintro _ ⟨nq, rfl⟩

          gi_wp2
          go_roundw
          case rel => exact ⟨m + 1, by go_num, by omega, by rw [HW.out.2.1]; exact winC_move HW.out.1 (fr_drewN (fun _ => False) wr nq) (fun _ _ h => h), fr_trans HW.out.2.2 (fr_drewN _ wr nq) fun _ _ h => h⟩
          case measure => simp [intOf]; omega
      · obtain rfl : m = out.length := by omega
        rw [List.take_length, List.drop_length, List.append_nil] at hwx
        have hne : ∀ i, some i = (Value.slice a1 out.length c1).ownBlock → W1.heap.size ≤ i ∧ i < X := HWO.out.2
        have rs1 := fr_cell hF s1 (fun h => by have := (hne X h).2; omega)
        have rs2 := fr_cell hF s2 (fun h => by have := (hne X h).2; omega)
        have rs3 := fr_cell hF s3 (fun h => by have := (hne X h).2; omega)
        have rof := fr_frozen hF (show Bo < W2.heap.size by omega) HF.out (fun h => by have := (hne Bo h).1; omega)
        have z1 := hF.size
        have htk : livesFrom k (thP k l (i + 1)) (out.map (closeL g.from_ s.at_) ++ if s.do_ = 1 then [⟨s.at_, 1001, s.key, s.val⟩] else []) (l.drop (i + 1)) = livesOf k l := by rw [thP_succ HJ.out.2.2.2.2.2.1, ← HG.out, ← livesFrom_drop HJ.out.2.2.2.2.2.1]; exact HJ.out.2.1
        have hL2 := (hF.block (Wp.heap.size + 1) (by omega) (fun h => by have := (hne _ h).1; omega)).trans HQ.out.2.1
        have hFW : Fr (fun i => (some i = (Value.slice a1 out.length c1).ownBlock) ∨ i = Wp.heap.size + 1) W wr := fr_trans (fr_mono HQ.out.1 fun i h => .inr h) hF fun i _ h => .inl h
        have HW := Lib.hid (And.intro hwx (And.intro hFW (And.intro rof (And.intro htk hL2))))
        clear hwx hF htk hL2 hFW rof s0 s1 s2 s3 g1 o0
        by_cases hd : s.do_ = 1
        · have hdb : (s.do_ == 1) = true := by simp [hd]
          have HD := Lib.hid hd
          clear hd
          have hfd : ∀ w : World, (Instr.field 58 (.agg #[.int .i64 s.key, .int .i64 s.val, .int .i64 s.at_]) 0).run Tryz.prog w = .ok (.agg #[.int .i64 s.key, .int .i64 s.val]) w := fun _ => by kernel_rfl
          gi_wp2
          have hwc : WinC 4 41 wr (.slice a1 out.length c1) (fun i => some i = (Value.slice a1 out.length c1).ownBlock ∧ (W1.heap.size ≤ i ∧ ¬ S i) ∧ i < X) out.length ((out.map (closeL g.from_ s.at_)).flatMap Life.cells) := by have h := HW.out.1; unfold Win at h; rwa [List.length_map] at h
          have HWW := Lib.hid (winC_move (T := fun _ => False) hwc (fr_of_below (Below.refl _ _).drew) fun _ _ h => h)
          clear hwc
          have mixed2 : (Tryz.prog).follows .mixedOrders = true := by kernel_rfl
          have EN := Lib.hid (enters_of Tryz.func34 (by kernel_rfl) rfl)
          set_option maxRecDepth 10000 in
          refine region_held_round (fun W => W.cell? ⟨X, 0, none⟩ = some (.int .i64 s.at_) ∧ W.cell? ⟨X, 1, none⟩ = some (.int .i64 s.do_) ∧ W.cell? ⟨X, 2, none⟩ = some (.int .i64 s.key) ∧ W.cell? ⟨X, 3, none⟩ = some (.int .i64 s.val)) mixed2 (by rintro ⟨_, _, h⟩; exact h) (by kernel_rfl) ⟨rs0, rs1, rs2, rs3⟩ (fun hHeld => ?_)
          set_option maxRecDepth 10000 in
          refine wpAnyH_take (i := 1) (v := ?_) rfl (by kernel_rfl) (by kernel_rfl) (by kernel_rfl) (fun _ _ _ h => h) (Or.inl ⟨by rfl, ?_⟩) (by assumption) ?_
          rotate_left
          · intro w hSw; (try dsimp only at hSw); go_simp; (try with_reducible rfl)
          try simp only [Act.put, List.getElem_toArray, List.getElem_cons_zero, List.getElem_cons_succ, List.setIfInBounds_toArray, List.set_cons_zero, List.set_cons_succ]

          set_option maxRecDepth 10000 in
          refine wpAnyH_take (i := 2) (v := ?_) rfl (by kernel_rfl) (by kernel_rfl) (by kernel_rfl) (fun _ _ _ h => h) (Or.inl ⟨by rfl, ?_⟩) (by assumption) ?_
          rotate_left
          · intro w hSw; (try dsimp only at hSw); go_simp; (try with_reducible rfl)
          try simp only [Act.put, List.getElem_toArray, List.getElem_cons_zero, List.getElem_cons_succ, List.setIfInBounds_toArray, List.set_cons_zero, List.set_cons_succ]

          set_option maxRecDepth 10000 in
          refine wpAnyH_take (i := 3) (v := ?_) rfl (by kernel_rfl) (by kernel_rfl) (by kernel_rfl) (fun _ _ _ h => h) (Or.inl ⟨by rfl, ?_⟩) (by assumption) ?_
          rotate_left
          · intro w hSw; (try dsimp only at hSw); go_simp; (try with_reducible rfl)
          try simp only [Act.put, List.getElem_toArray, List.getElem_cons_zero, List.getElem_cons_succ, List.setIfInBounds_toArray, List.set_cons_zero, List.set_cons_succ]

          set_option maxRecDepth 10000 in
          refine wpAnyH_ready (rs := [0, 4]) (by kernel_rfl) (by simp) ?_

          refine AllReadyH.cons rfl (fun K hK => ?_) ?_
          set_option maxRecDepth 10000 in
          go_simp
          refine hK.out _ _ (by assumption) (fun hHeld => ?_)
          clear hK K
          try simp only [Act.put, List.setIfInBounds_toArray, List.set_cons_zero, List.set_cons_succ]

          · skip
            set_option maxRecDepth 10000 in
            refine wpAnyH_ready (rs := [4]) (by kernel_rfl) (by simp) ?_

            refine AllReadyH.cons rfl (fun K hK => ?_) ?_
            set_option maxRecDepth 10000 in
            refine step_call (by rfl) 34 _ _ (by rfl) (EN.out) _ (by rfl) (came_any s _) ?_
            rintro _ w5 ⟨rfl, hb5⟩
            refine ⟨_, rfl, ?_⟩
            have t0 : w5.cell? ⟨X, 0, none⟩ = some (.int .i64 s.at_) := below_cell hb5 (show wr.drew.cell? ⟨X, 0, none⟩ = _ from rs0)
            have t1 : w5.cell? ⟨X, 1, none⟩ = some (.int .i64 s.do_) := below_cell hb5 (show wr.drew.cell? ⟨X, 1, none⟩ = _ from rs1)
            have t2 : w5.cell? ⟨X, 2, none⟩ = some (.int .i64 s.key) := below_cell hb5 (show wr.drew.cell? ⟨X, 2, none⟩ = _ from rs2)
            have t3 : w5.cell? ⟨X, 3, none⟩ = some (.int .i64 s.val) := below_cell hb5 (show wr.drew.cell? ⟨X, 3, none⟩ = _ from rs3)
            have rr0 : w5.cell? ⟨Bo, 0, none⟩ = some (.slice a1 out.length c1) := below_cell hb5 (show wr.drew.cell? ⟨Bo, 0, none⟩ = _ from r0)
            have rr1 := fun o => below_cell ((Below.refl w5.heap.size w5).alloc (Nat.le_refl _) o) rr0
            have H5 := Lib.hid hb5
            clear hb5
            refine hK.out _ _ ⟨t0, t1, t2, t3⟩ (fun hHeld => ?_)
            clear hK K
            try simp only [Act.put, List.setIfInBounds_toArray, List.set_cons_zero, List.set_cons_succ]

            · skip
              set_option maxRecDepth 10000 in
              refine wpAnyH_take (i := 5) (v := ?_) rfl (by kernel_rfl) (by kernel_rfl) (by kernel_rfl) (fun _ _ _ h => h) (Or.inl ⟨by rfl, ?_⟩) (by assumption) ?_
              rotate_left
              · intro w hSw; (try dsimp only at hSw); go_simp; (try with_reducible rfl)
              try simp only [Act.put, List.getElem_toArray, List.getElem_cons_zero, List.getElem_cons_succ, List.setIfInBounds_toArray, List.set_cons_zero, List.set_cons_succ]

              set_option maxRecDepth 10000 in
              refine wpAnyH_take (i := 6) (v := ?_) rfl (by kernel_rfl) (by kernel_rfl) (by kernel_rfl) (fun _ _ _ h => h) (Or.inl ⟨by rfl, ?_⟩) (by assumption) ?_
              rotate_left
              · intro w hSw; (try dsimp only at hSw); go_simp; (try with_reducible rfl)
              try simp only [Act.put, List.getElem_toArray, List.getElem_cons_zero, List.getElem_cons_succ, List.setIfInBounds_toArray, List.set_cons_zero, List.set_cons_succ]

              set_option maxRecDepth 10000 in
              refine wpAnyH_ready (rs := [7]) (by kernel_rfl) (by simp) ?_

              refine AllReadyH.cons rfl (fun K hK => ?_) ?_
              set_option maxRecDepth 10000 in
              go_simp
              refine hK.out _ _ ⟨below_cell ((Below.refl w5.heap.size w5).alloc (Nat.le_refl _) _) t0, below_cell ((Below.refl w5.heap.size w5).alloc (Nat.le_refl _) _) t1, below_cell ((Below.refl w5.heap.size w5).alloc (Nat.le_refl _) _) t2, below_cell ((Below.refl w5.heap.size w5).alloc (Nat.le_refl _) _) t3⟩ (fun hHeld => ?_)
              clear hK K
              try simp only [Act.put, List.setIfInBounds_toArray, List.set_cons_zero, List.set_cons_succ]

              · skip
                set_option maxRecDepth 10000 in
                refine wpAnyH_ready (rs := [8]) (by kernel_rfl) (by simp) ?_

                refine AllReadyH.cons rfl (fun K hK => ?_) ?_
                set_option maxRecDepth 10000 in
                refine step_append_win _ (by rfl) _ _ _ (by rfl) 41 4 32 _ Tryz.underlying26 info_life rfl (by decide) _ (fun i => some i = (Value.slice a1 out.length c1).ownBlock ∧ (W1.heap.size ≤ i ∧ ¬ S i) ∧ i < X) out.length ((out.map (closeL g.from_ s.at_)).flatMap Life.cells) (by go_simp <;> rfl) (winC_move (winC_move HWW.out (fr_of_below (S := fun _ => False) H5.out) fun _ _ h => h) (fr_alloc (fun _ => False) w5 _) fun _ _ h => h) ⟨w5.heap.size, 0, none⟩ 1 1 [.int .i64 s.at_, .int .i64 1001, .int .i64 s.key, .int .i64 s.val] (by go_simp <;> rfl) (by rfl) (World.news_of_block (heap_alloc_new w5 _)) (by simp [Value.oneCell']) (by decide) (by unfold maxLen; omega) (by omega) ?_
                intro v3 w6 hwin3 hfr3 hsz3
                obtain ⟨a4, c4, rfl, hn4, hm4⟩ := winC_slice hwin3
                have F6 : Fr (fun i => some i = (Value.slice a1 out.length c1).ownBlock) wr w6 := fr_trans (fr_trans (fr_of_below (Below.refl _ _).drew) (fr_of_below H5.out) fun _ _ h => h) (fr_trans (fr_alloc _ w5 _) hfr3 fun _ _ h => h) fun _ _ h => h
                have o6 := fr_cell F6 r0 (fun h => by have : W1.heap.size ≤ Bo := (HWO.out.2 _ h).1; omega)
                have of6 := fr_frozen F6 (show Bo < wr.heap.size by omega) HW.out.2.2.1 (fun h => by have : W1.heap.size ≤ Bo := (HWO.out.2 _ h).1; omega)
                have x0 := fr_cell F6 rs0 (fun h => by have := (hne X h).2; omega)
                have x1 := fr_cell F6 rs1 (fun h => by have := (hne X h).2; omega)
                have x2 := fr_cell F6 rs2 (fun h => by have := (hne X h).2; omega)
                have x3 := fr_cell F6 rs3 (fun h => by have := (hne X h).2; omega)
                have H6 := Lib.hid (And.intro hwin3 F6)
                clear hwin3 hfr3 F6
                refine hK.out _ _ ⟨x0, x1, x2, x3⟩ (fun hHeld => ?_)
                clear hK K
                try simp only [Act.put, List.setIfInBounds_toArray, List.set_cons_zero, List.set_cons_succ]
                set_option maxRecDepth 10000 in
                refine wpAnyH_ready (rs := [9]) (by kernel_rfl) (by simp) ?_

                refine AllReadyH.cons rfl (fun K hK => ?_) ?_
                set_option maxRecDepth 10000 in
                go_simp
                refine hK.out _ _ ⟨fr_cell (fr_setCell w6 _ _) x0 (fun h => by have h2 : X = Bo := h; omega), fr_cell (fr_setCell w6 _ _) x1 (fun h => by have h2 : X = Bo := h; omega), fr_cell (fr_setCell w6 _ _) x2 (fun h => by have h2 : X = Bo := h; omega), fr_cell (fr_setCell w6 _ _) x3 (fun h => by have h2 : X = Bo := h; omega)⟩ (fun hHeld => ?_)
                clear hK K
                refine wpAnyH_done (by kernel_rfl) ?_ _

                · skip
                  gi_wp2
                  have hF3 := H6.out.2
                  have hwin3 := H6.out.1
                  have hFW := HW.out.2.1
                  have htk := HW.out.2.2.2.1
                  have o4 := World.cell?_setCell_same w6 _ (.slice a4 (out.length + 1) c4) o6
                  have of4 : (w6.setCell ⟨Bo, 0, none⟩ (.slice a4 (out.length + 1) c4)).frozen? ⟨Bo, 0, none⟩ = false := (World.frozen?_setCell _ _ _ _).trans of6
                  have hF4 : Fr (fun i => (some i = (Value.slice a1 out.length c1).ownBlock) ∨ i = Bo) wr (w6.setCell ⟨Bo, 0, none⟩ (.slice a4 (out.length + 1) c4)) := fr_trans (fr_mono hF3 fun i h => .inl h) (fr_setCell w6 _ _) fun i _ h => .inr h
                  have hz56 : wr.heap.size ≤ w5.heap.size := H5.out.size
                  have hw4 := winC_move hwin3 (fr_setCell w6 ⟨Bo, 0, none⟩ (.slice a4 (out.length + 1) c4)) fun i hi (h : i = Bo) => by
                    rcases hi with hi | hi
                    · have := hi.1.2.1.1; omega
                    · simp at hi; omega
                  generalize w6.setCell ⟨Bo, 0, none⟩ (.slice a4 (out.length + 1) c4) = w4 at *
                  have hL4 := (hF4.block (Wp.heap.size + 1) (by omega) (fun h => by rcases h with h | h; have := (hne _ h).1; omega; omega)).trans HW.out.2.2.2.2
                  have hs4 := hF4.size
                  have hz2w : Wp.heap.size + 1 < w4.heap.size := by omega
                  refine round_end hL4 fun W5 hF5 hL5 hz5 => ?_
                  have hF45 : Fr (fun i => (some i = (Value.slice a1 out.length c1).ownBlock) ∨ i = Bo ∨ i = Wp.heap.size + 1) W W5 := fr_trans (fr_trans (fr_mono hFW fun i h => h.imp id .inr) hF4 fun i _ h => h.imp id fun h => .inl h) hF5 fun i _ h => .inr (.inr h)
                  have hD5 := (hF45.block Wp.heap.size (by omega) (fun h => by rcases h with h | h | h; have := (hne _ h).1; omega; omega; omega)).trans HJ.out.2.2.2.1
                  rw [if_pos HD.out] at htk
                  refine ⟨rfl, (HJI.out _ _ _).2 ⟨a4, out.map (closeL g.from_ s.at_) ++ [⟨s.at_, 1001, s.key, s.val⟩], c4, ?_, fr_frozen hF5 (by show Bo < _; omega) of4 (by show ¬ Bo = _; omega), ?_, htk, by simp; omega, hL5.trans (by rw [HQ.out.2.2]), hD5, HJ.out.2.2.2.2.1.trans (below_of_fr hF45 (by omega) fun i hi => by rcases hi with h | h | h; have := (hne _ h).1; omega; omega; omega), by omega⟩, fr_mono hF45 fun i h => ?_⟩
                  · have := fr_cell hF5 o4 (by show ¬ Bo = _; omega)
                    simpa using this
                  · have hw5 := winC_move hw4 hF5 fun i hi (h : i = Wp.heap.size + 1) => by
                      rcases hi with hi | hi
                      · have := hi.1.2.1.1; omega
                      · simp at hi; omega
                    have hw6 : WinC 4 41 W5 (.slice a4 (out.length + 1) c4) (fun j => W1.heap.size ≤ j ∧ ¬ S j) (out.length + 1) ((out.map (closeL g.from_ s.at_)).flatMap Life.cells ++ [.int .i64 s.at_, .int .i64 1001, .int .i64 s.key, .int .i64 s.val]) := winC_mono hw5 fun i hi => by
                      rcases hi with hi | hi
                      · exact hi.1.2.1
                      · simp at hi; exact ⟨by omega, fun h => by have := hSL.out _ h; omega⟩
                    have e1 : (out.map (closeL g.from_ s.at_) ++ [(⟨s.at_, 1001, s.key, s.val⟩ : Life)]).length = out.length + 1 := by simp
                    have e2 : (out.map (closeL g.from_ s.at_) ++ [(⟨s.at_, 1001, s.key, s.val⟩ : Life)]).flatMap Life.cells = (out.map (closeL g.from_ s.at_)).flatMap Life.cells ++ [.int .i64 s.at_, .int .i64 1001, .int .i64 s.key, .int .i64 s.val] := by rw [List.flatMap_append]; rfl
                    unfold Win
                    rw [e1, e2]
                    exact hw6
                  · rcases h with h | h | h
                    · have := winC_ob HJ.out.1 _ h
                      exact ⟨this.1.2, .inr this.1.1⟩
                    · exact ⟨fun hs => by have := hSL.out _ hs; omega, .inl (.inl h)⟩
                    · exact ⟨fun hs => by have := hSL.out _ hs; omega, .inl (.inr h)⟩

                · exact AllReadyH.nil
                · exact AllReadyH.nil
              · exact AllReadyH.nil
            · exact AllReadyH.nil
          · skip
            refine AllReadyH.cons rfl (fun K hK => ?_) ?_
            set_option maxRecDepth 10000 in
            refine step_call (by rfl) 34 _ _ (by rfl) (EN.out) _ (by rfl) (came_any s _) ?_
            rintro _ w5 ⟨rfl, hb5⟩
            refine ⟨_, rfl, ?_⟩
            have t0 : w5.cell? ⟨X, 0, none⟩ = some (.int .i64 s.at_) := below_cell hb5 (show wr.drew.cell? ⟨X, 0, none⟩ = _ from rs0)
            have t1 : w5.cell? ⟨X, 1, none⟩ = some (.int .i64 s.do_) := below_cell hb5 (show wr.drew.cell? ⟨X, 1, none⟩ = _ from rs1)
            have t2 : w5.cell? ⟨X, 2, none⟩ = some (.int .i64 s.key) := below_cell hb5 (show wr.drew.cell? ⟨X, 2, none⟩ = _ from rs2)
            have t3 : w5.cell? ⟨X, 3, none⟩ = some (.int .i64 s.val) := below_cell hb5 (show wr.drew.cell? ⟨X, 3, none⟩ = _ from rs3)
            have rr0 : w5.cell? ⟨Bo, 0, none⟩ = some (.slice a1 out.length c1) := below_cell hb5 (show wr.drew.cell? ⟨Bo, 0, none⟩ = _ from r0)
            have rr1 := fun o => below_cell ((Below.refl w5.heap.size w5).alloc (Nat.le_refl _) o) rr0
            have H5 := Lib.hid hb5
            clear hb5
            refine hK.out _ _ ⟨t0, t1, t2, t3⟩ (fun hHeld => ?_)
            clear hK K
            try simp only [Act.put, List.setIfInBounds_toArray, List.set_cons_zero, List.set_cons_succ]

            · skip
              set_option maxRecDepth 10000 in
              refine wpAnyH_take (i := 5) (v := ?_) rfl (by kernel_rfl) (by kernel_rfl) (by kernel_rfl) (fun _ _ _ h => h) (Or.inl ⟨by rfl, ?_⟩) (by assumption) ?_
              rotate_left
              · intro w hSw; (try dsimp only at hSw); go_simp; (try with_reducible rfl)
              try simp only [Act.put, List.getElem_toArray, List.getElem_cons_zero, List.getElem_cons_succ, List.setIfInBounds_toArray, List.set_cons_zero, List.set_cons_succ]

              set_option maxRecDepth 10000 in
              refine wpAnyH_take (i := 6) (v := ?_) rfl (by kernel_rfl) (by kernel_rfl) (by kernel_rfl) (fun _ _ _ h => h) (Or.inl ⟨by rfl, ?_⟩) (by assumption) ?_
              rotate_left
              · intro w hSw; (try dsimp only at hSw); go_simp; (try with_reducible rfl)
              try simp only [Act.put, List.getElem_toArray, List.getElem_cons_zero, List.getElem_cons_succ, List.setIfInBounds_toArray, List.set_cons_zero, List.set_cons_succ]

              set_option maxRecDepth 10000 in
              refine wpAnyH_ready (rs := [0, 7]) (by kernel_rfl) (by simp) ?_

              refine AllReadyH.cons rfl (fun K hK => ?_) ?_
              set_option maxRecDepth 10000 in
              go_simp
              refine hK.out _ _ (by assumption) (fun hHeld => ?_)
              clear hK K
              try simp only [Act.put, List.setIfInBounds_toArray, List.set_cons_zero, List.set_cons_succ]

              · skip
                set_option maxRecDepth 10000 in
                refine wpAnyH_ready (rs := [7]) (by kernel_rfl) (by simp) ?_

                refine AllReadyH.cons rfl (fun K hK => ?_) ?_
                set_option maxRecDepth 10000 in
                go_simp
                refine hK.out _ _ ⟨below_cell ((Below.refl w5.heap.size w5).alloc (Nat.le_refl _) _) t0, below_cell ((Below.refl w5.heap.size w5).alloc (Nat.le_refl _) _) t1, below_cell ((Below.refl w5.heap.size w5).alloc (Nat.le_refl _) _) t2, below_cell ((Below.refl w5.heap.size w5).alloc (Nat.le_refl _) _) t3⟩ (fun hHeld => ?_)
                clear hK K
                try simp only [Act.put, List.setIfInBounds_toArray, List.set_cons_zero, List.set_cons_succ]

                · skip
                  set_option maxRecDepth 10000 in
                  refine wpAnyH_ready (rs := [8]) (by kernel_rfl) (by simp) ?_

                  refine AllReadyH.cons rfl (fun K hK => ?_) ?_
                  set_option maxRecDepth 10000 in
                  refine step_append_win _ (by rfl) _ _ _ (by rfl) 41 4 32 _ Tryz.underlying26 info_life rfl (by decide) _ (fun i => some i = (Value.slice a1 out.length c1).ownBlock ∧ (W1.heap.size ≤ i ∧ ¬ S i) ∧ i < X) out.length ((out.map (closeL g.from_ s.at_)).flatMap Life.cells) (by go_simp <;> rfl) (winC_move (winC_move HWW.out (fr_of_below (S := fun _ => False) H5.out) fun _ _ h => h) (fr_alloc (fun _ => False) w5 _) fun _ _ h => h) ⟨w5.heap.size, 0, none⟩ 1 1 [.int .i64 s.at_, .int .i64 1001, .int .i64 s.key, .int .i64 s.val] (by go_simp <;> rfl) (by rfl) (World.news_of_block (heap_alloc_new w5 _)) (by simp [Value.oneCell']) (by decide) (by unfold maxLen; omega) (by omega) ?_
                  intro v3 w6 hwin3 hfr3 hsz3
                  obtain ⟨a4, c4, rfl, hn4, hm4⟩ := winC_slice hwin3
                  have F6 : Fr (fun i => some i = (Value.slice a1 out.length c1).ownBlock) wr w6 := fr_trans (fr_trans (fr_of_below (Below.refl _ _).drew) (fr_of_below H5.out) fun _ _ h => h) (fr_trans (fr_alloc _ w5 _) hfr3 fun _ _ h => h) fun _ _ h => h
                  have o6 := fr_cell F6 r0 (fun h => by have : W1.heap.size ≤ Bo := (HWO.out.2 _ h).1; omega)
                  have of6 := fr_frozen F6 (show Bo < wr.heap.size by omega) HW.out.2.2.1 (fun h => by have : W1.heap.size ≤ Bo := (HWO.out.2 _ h).1; omega)
                  have x0 := fr_cell F6 rs0 (fun h => by have := (hne X h).2; omega)
                  have x1 := fr_cell F6 rs1 (fun h => by have := (hne X h).2; omega)
                  have x2 := fr_cell F6 rs2 (fun h => by have := (hne X h).2; omega)
                  have x3 := fr_cell F6 rs3 (fun h => by have := (hne X h).2; omega)
                  have H6 := Lib.hid (And.intro hwin3 F6)
                  clear hwin3 hfr3 F6
                  refine hK.out _ _ ⟨x0, x1, x2, x3⟩ (fun hHeld => ?_)
                  clear hK K
                  try simp only [Act.put, List.setIfInBounds_toArray, List.set_cons_zero, List.set_cons_succ]
                  set_option maxRecDepth 10000 in
                  refine wpAnyH_ready (rs := [9]) (by kernel_rfl) (by simp) ?_

                  refine AllReadyH.cons rfl (fun K hK => ?_) ?_
                  set_option maxRecDepth 10000 in
                  go_simp
                  refine hK.out _ _ ⟨fr_cell (fr_setCell w6 _ _) x0 (fun h => by have h2 : X = Bo := h; omega), fr_cell (fr_setCell w6 _ _) x1 (fun h => by have h2 : X = Bo := h; omega), fr_cell (fr_setCell w6 _ _) x2 (fun h => by have h2 : X = Bo := h; omega), fr_cell (fr_setCell w6 _ _) x3 (fun h => by have h2 : X = Bo := h; omega)⟩ (fun hHeld => ?_)
                  clear hK K
                  refine wpAnyH_done (by kernel_rfl) ?_ _

                  · skip
                    gi_wp2
                    have hF3 := H6.out.2
                    have hwin3 := H6.out.1
                    have hFW := HW.out.2.1
                    have htk := HW.out.2.2.2.1
                    have o4 := World.cell?_setCell_same w6 _ (.slice a4 (out.length + 1) c4) o6
                    have of4 : (w6.setCell ⟨Bo, 0, none⟩ (.slice a4 (out.length + 1) c4)).frozen? ⟨Bo, 0, none⟩ = false := (World.frozen?_setCell _ _ _ _).trans of6
                    have hF4 : Fr (fun i => (some i = (Value.slice a1 out.length c1).ownBlock) ∨ i = Bo) wr (w6.setCell ⟨Bo, 0, none⟩ (.slice a4 (out.length + 1) c4)) := fr_trans (fr_mono hF3 fun i h => .inl h) (fr_setCell w6 _ _) fun i _ h => .inr h
                    have hz56 : wr.heap.size ≤ w5.heap.size := H5.out.size
                    have hw4 := winC_move hwin3 (fr_setCell w6 ⟨Bo, 0, none⟩ (.slice a4 (out.length + 1) c4)) fun i hi (h : i = Bo) => by
                      rcases hi with hi | hi
                      · have := hi.1.2.1.1; omega
                      · simp at hi; omega
                    generalize w6.setCell ⟨Bo, 0, none⟩ (.slice a4 (out.length + 1) c4) = w4 at *
                    have hL4 := (hF4.block (Wp.heap.size + 1) (by omega) (fun h => by rcases h with h | h; have := (hne _ h).1; omega; omega)).trans HW.out.2.2.2.2
                    have hs4 := hF4.size
                    have hz2w : Wp.heap.size + 1 < w4.heap.size := by omega
                    refine round_end hL4 fun W5 hF5 hL5 hz5 => ?_
                    have hF45 : Fr (fun i => (some i = (Value.slice a1 out.length c1).ownBlock) ∨ i = Bo ∨ i = Wp.heap.size + 1) W W5 := fr_trans (fr_trans (fr_mono hFW fun i h => h.imp id .inr) hF4 fun i _ h => h.imp id fun h => .inl h) hF5 fun i _ h => .inr (.inr h)
                    have hD5 := (hF45.block Wp.heap.size (by omega) (fun h => by rcases h with h | h | h; have := (hne _ h).1; omega; omega; omega)).trans HJ.out.2.2.2.1
                    rw [if_pos HD.out] at htk
                    refine ⟨rfl, (HJI.out _ _ _).2 ⟨a4, out.map (closeL g.from_ s.at_) ++ [⟨s.at_, 1001, s.key, s.val⟩], c4, ?_, fr_frozen hF5 (by show Bo < _; omega) of4 (by show ¬ Bo = _; omega), ?_, htk, by simp; omega, hL5.trans (by rw [HQ.out.2.2]), hD5, HJ.out.2.2.2.2.1.trans (below_of_fr hF45 (by omega) fun i hi => by rcases hi with h | h | h; have := (hne _ h).1; omega; omega; omega), by omega⟩, fr_mono hF45 fun i h => ?_⟩
                    · have := fr_cell hF5 o4 (by show ¬ Bo = _; omega)
                      simpa using this
                    · have hw5 := winC_move hw4 hF5 fun i hi (h : i = Wp.heap.size + 1) => by
                        rcases hi with hi | hi
                        · have := hi.1.2.1.1; omega
                        · simp at hi; omega
                      have hw6 : WinC 4 41 W5 (.slice a4 (out.length + 1) c4) (fun j => W1.heap.size ≤ j ∧ ¬ S j) (out.length + 1) ((out.map (closeL g.from_ s.at_)).flatMap Life.cells ++ [.int .i64 s.at_, .int .i64 1001, .int .i64 s.key, .int .i64 s.val]) := winC_mono hw5 fun i hi => by
                        rcases hi with hi | hi
                        · exact hi.1.2.1
                        · simp at hi; exact ⟨by omega, fun h => by have := hSL.out _ h; omega⟩
                      have e1 : (out.map (closeL g.from_ s.at_) ++ [(⟨s.at_, 1001, s.key, s.val⟩ : Life)]).length = out.length + 1 := by simp
                      have e2 : (out.map (closeL g.from_ s.at_) ++ [(⟨s.at_, 1001, s.key, s.val⟩ : Life)]).flatMap Life.cells = (out.map (closeL g.from_ s.at_)).flatMap Life.cells ++ [.int .i64 s.at_, .int .i64 1001, .int .i64 s.key, .int .i64 s.val] := by rw [List.flatMap_append]; rfl
                      unfold Win
                      rw [e1, e2]
                      exact hw6
                    · rcases h with h | h | h
                      · have := winC_ob HJ.out.1 _ h
                        exact ⟨this.1.2, .inr this.1.1⟩
                      · exact ⟨fun hs => by have := hSL.out _ hs; omega, .inl (.inl h)⟩
                      · exact ⟨fun hs => by have := hSL.out _ hs; omega, .inl (.inr h)⟩

                  · exact AllReadyH.nil
                  · exact AllReadyH.nil
                · exact AllReadyH.nil
              · skip
                refine AllReadyH.cons rfl (fun K hK => ?_) ?_
                set_option maxRecDepth 10000 in
                go_simp
                refine hK.out _ _ ⟨below_cell ((Below.refl w5.heap.size w5).alloc (Nat.le_refl _) _) t0, below_cell ((Below.refl w5.heap.size w5).alloc (Nat.le_refl _) _) t1, below_cell ((Below.refl w5.heap.size w5).alloc (Nat.le_refl _) _) t2, below_cell ((Below.refl w5.heap.size w5).alloc (Nat.le_refl _) _) t3⟩ (fun hHeld => ?_)
                clear hK K
                try simp only [Act.put, List.setIfInBounds_toArray, List.set_cons_zero, List.set_cons_succ]

                · skip
                  set_option maxRecDepth 10000 in
                  refine wpAnyH_ready (rs := [0]) (by kernel_rfl) (by simp) ?_

                  refine AllReadyH.cons rfl (fun K hK => ?_) ?_
                  set_option maxRecDepth 10000 in
                  go_simp
                  refine hK.out _ _ (by assumption) (fun hHeld => ?_)
                  clear hK K
                  try simp only [Act.put, List.setIfInBounds_toArray, List.set_cons_zero, List.set_cons_succ]

                  · skip
                    set_option maxRecDepth 10000 in
                    refine wpAnyH_ready (rs := [8]) (by kernel_rfl) (by simp) ?_

                    refine AllReadyH.cons rfl (fun K hK => ?_) ?_
                    set_option maxRecDepth 10000 in
                    refine step_append_win _ (by rfl) _ _ _ (by rfl) 41 4 32 _ Tryz.underlying26 info_life rfl (by decide) _ (fun i => some i = (Value.slice a1 out.length c1).ownBlock ∧ (W1.heap.size ≤ i ∧ ¬ S i) ∧ i < X) out.length ((out.map (closeL g.from_ s.at_)).flatMap Life.cells) (by go_simp <;> rfl) (winC_move (winC_move HWW.out (fr_of_below (S := fun _ => False) H5.out) fun _ _ h => h) (fr_alloc (fun _ => False) w5 _) fun _ _ h => h) ⟨w5.heap.size, 0, none⟩ 1 1 [.int .i64 s.at_, .int .i64 1001, .int .i64 s.key, .int .i64 s.val] (by go_simp <;> rfl) (by rfl) (World.news_of_block (heap_alloc_new w5 _)) (by simp [Value.oneCell']) (by decide) (by unfold maxLen; omega) (by omega) ?_
                    intro v3 w6 hwin3 hfr3 hsz3
                    obtain ⟨a4, c4, rfl, hn4, hm4⟩ := winC_slice hwin3
                    have F6 : Fr (fun i => some i = (Value.slice a1 out.length c1).ownBlock) wr w6 := fr_trans (fr_trans (fr_of_below (Below.refl _ _).drew) (fr_of_below H5.out) fun _ _ h => h) (fr_trans (fr_alloc _ w5 _) hfr3 fun _ _ h => h) fun _ _ h => h
                    have o6 := fr_cell F6 r0 (fun h => by have : W1.heap.size ≤ Bo := (HWO.out.2 _ h).1; omega)
                    have of6 := fr_frozen F6 (show Bo < wr.heap.size by omega) HW.out.2.2.1 (fun h => by have : W1.heap.size ≤ Bo := (HWO.out.2 _ h).1; omega)
                    have x0 := fr_cell F6 rs0 (fun h => by have := (hne X h).2; omega)
                    have x1 := fr_cell F6 rs1 (fun h => by have := (hne X h).2; omega)
                    have x2 := fr_cell F6 rs2 (fun h => by have := (hne X h).2; omega)
                    have x3 := fr_cell F6 rs3 (fun h => by have := (hne X h).2; omega)
                    have H6 := Lib.hid (And.intro hwin3 F6)
                    clear hwin3 hfr3 F6
                    refine hK.out _ _ ⟨x0, x1, x2, x3⟩ (fun hHeld => ?_)
                    clear hK K
                    try simp only [Act.put, List.setIfInBounds_toArray, List.set_cons_zero, List.set_cons_succ]
                    set_option maxRecDepth 10000 in
                    refine wpAnyH_ready (rs := [9]) (by kernel_rfl) (by simp) ?_

                    refine AllReadyH.cons rfl (fun K hK => ?_) ?_
                    set_option maxRecDepth 10000 in
                    go_simp
                    refine hK.out _ _ ⟨fr_cell (fr_setCell w6 _ _) x0 (fun h => by have h2 : X = Bo := h; omega), fr_cell (fr_setCell w6 _ _) x1 (fun h => by have h2 : X = Bo := h; omega), fr_cell (fr_setCell w6 _ _) x2 (fun h => by have h2 : X = Bo := h; omega), fr_cell (fr_setCell w6 _ _) x3 (fun h => by have h2 : X = Bo := h; omega)⟩ (fun hHeld => ?_)
                    clear hK K
                    refine wpAnyH_done (by kernel_rfl) ?_ _

                    · skip
                      gi_wp2
                      have hF3 := H6.out.2
                      have hwin3 := H6.out.1
                      have hFW := HW.out.2.1
                      have htk := HW.out.2.2.2.1
                      have o4 := World.cell?_setCell_same w6 _ (.slice a4 (out.length + 1) c4) o6
                      have of4 : (w6.setCell ⟨Bo, 0, none⟩ (.slice a4 (out.length + 1) c4)).frozen? ⟨Bo, 0, none⟩ = false := (World.frozen?_setCell _ _ _ _).trans of6
                      have hF4 : Fr (fun i => (some i = (Value.slice a1 out.length c1).ownBlock) ∨ i = Bo) wr (w6.setCell ⟨Bo, 0, none⟩ (.slice a4 (out.length + 1) c4)) := fr_trans (fr_mono hF3 fun i h => .inl h) (fr_setCell w6 _ _) fun i _ h => .inr h
                      have hz56 : wr.heap.size ≤ w5.heap.size := H5.out.size
                      have hw4 := winC_move hwin3 (fr_setCell w6 ⟨Bo, 0, none⟩ (.slice a4 (out.length + 1) c4)) fun i hi (h : i = Bo) => by
                        rcases hi with hi | hi
                        · have := hi.1.2.1.1; omega
                        · simp at hi; omega
                      generalize w6.setCell ⟨Bo, 0, none⟩ (.slice a4 (out.length + 1) c4) = w4 at *
                      have hL4 := (hF4.block (Wp.heap.size + 1) (by omega) (fun h => by rcases h with h | h; have := (hne _ h).1; omega; omega)).trans HW.out.2.2.2.2
                      have hs4 := hF4.size
                      have hz2w : Wp.heap.size + 1 < w4.heap.size := by omega
                      refine round_end hL4 fun W5 hF5 hL5 hz5 => ?_
                      have hF45 : Fr (fun i => (some i = (Value.slice a1 out.length c1).ownBlock) ∨ i = Bo ∨ i = Wp.heap.size + 1) W W5 := fr_trans (fr_trans (fr_mono hFW fun i h => h.imp id .inr) hF4 fun i _ h => h.imp id fun h => .inl h) hF5 fun i _ h => .inr (.inr h)
                      have hD5 := (hF45.block Wp.heap.size (by omega) (fun h => by rcases h with h | h | h; have := (hne _ h).1; omega; omega; omega)).trans HJ.out.2.2.2.1
                      rw [if_pos HD.out] at htk
                      refine ⟨rfl, (HJI.out _ _ _).2 ⟨a4, out.map (closeL g.from_ s.at_) ++ [⟨s.at_, 1001, s.key, s.val⟩], c4, ?_, fr_frozen hF5 (by show Bo < _; omega) of4 (by show ¬ Bo = _; omega), ?_, htk, by simp; omega, hL5.trans (by rw [HQ.out.2.2]), hD5, HJ.out.2.2.2.2.1.trans (below_of_fr hF45 (by omega) fun i hi => by rcases hi with h | h | h; have := (hne _ h).1; omega; omega; omega), by omega⟩, fr_mono hF45 fun i h => ?_⟩
                      · have := fr_cell hF5 o4 (by show ¬ Bo = _; omega)
                        simpa using this
                      · have hw5 := winC_move hw4 hF5 fun i hi (h : i = Wp.heap.size + 1) => by
                          rcases hi with hi | hi
                          · have := hi.1.2.1.1; omega
                          · simp at hi; omega
                        have hw6 : WinC 4 41 W5 (.slice a4 (out.length + 1) c4) (fun j => W1.heap.size ≤ j ∧ ¬ S j) (out.length + 1) ((out.map (closeL g.from_ s.at_)).flatMap Life.cells ++ [.int .i64 s.at_, .int .i64 1001, .int .i64 s.key, .int .i64 s.val]) := winC_mono hw5 fun i hi => by
                          rcases hi with hi | hi
                          · exact hi.1.2.1
                          · simp at hi; exact ⟨by omega, fun h => by have := hSL.out _ h; omega⟩
                        have e1 : (out.map (closeL g.from_ s.at_) ++ [(⟨s.at_, 1001, s.key, s.val⟩ : Life)]).length = out.length + 1 := by simp
                        have e2 : (out.map (closeL g.from_ s.at_) ++ [(⟨s.at_, 1001, s.key, s.val⟩ : Life)]).flatMap Life.cells = (out.map (closeL g.from_ s.at_)).flatMap Life.cells ++ [.int .i64 s.at_, .int .i64 1001, .int .i64 s.key, .int .i64 s.val] := by rw [List.flatMap_append]; rfl
                        unfold Win
                        rw [e1, e2]
                        exact hw6
                      · rcases h with h | h | h
                        · have := winC_ob HJ.out.1 _ h
                          exact ⟨this.1.2, .inr this.1.1⟩
                        · exact ⟨fun hs => by have := hSL.out _ hs; omega, .inl (.inl h)⟩
                        · exact ⟨fun hs => by have := hSL.out _ hs; omega, .inl (.inr h)⟩

                    · exact AllReadyH.nil
                    · exact AllReadyH.nil
                  · exact AllReadyH.nil
                · exact AllReadyH.nil
            · exact AllReadyH.nil
        · have hdb : (s.do_ == 1) = false := by simp [hd]
          have HD := Lib.hid hd
          clear hd
          gi_wp2
          have hwx := HW.out.1
          have hFW := HW.out.2.1
          have htk := HW.out.2.2.2.1
          rw [if_neg HD.out, List.append_nil] at htk
          have hz2w : Wp.heap.size + 1 < wr.heap.size := by omega
          refine round_end HW.out.2.2.2.2 fun W5 hF5 hL5 hz5 => ?_
          have hF45 : Fr (fun i => (some i = (Value.slice a1 out.length c1).ownBlock) ∨ i = Wp.heap.size + 1) W W5 := fr_trans hFW hF5 fun i _ h => .inr h
          have hD5 := (hF45.block Wp.heap.size (by omega) (fun h => by rcases h with h | h; have := (hne _ h).1; omega; omega)).trans HJ.out.2.2.2.1
          have e1 : (out.map (closeL g.from_ s.at_)).length = out.length := by simp
          refine ⟨rfl, (HJI.out _ _ _).2 ⟨a1, out.map (closeL g.from_ s.at_), c1, by rw [e1]; exact fr_cell hF5 r0 (by show ¬ Bo = _; omega), fr_frozen hF5 (by show Bo < _; omega) HW.out.2.2.1 (by show ¬ Bo = _; omega), ?_, htk, by simp; omega, hL5.trans (by rw [HQ.out.2.2]), hD5, HJ.out.2.2.2.2.1.trans (below_of_fr hF45 (by omega) fun i hi => by rcases hi with h | h; have := (hne _ h).1; omega; omega), by omega⟩, fr_mono hF45 fun i h => ?_⟩
          · rw [e1]
            exact winC_mono (winC_move hwx hF5 fun i hi (h : i = Wp.heap.size + 1) => by have := hi.2.1.1; omega) fun i hi => hi.2.1
          · rcases h with h | h
            · have := winC_ob HJ.out.1 _ h
              exact ⟨this.1.2, .inr this.1.1⟩
            · exact ⟨fun hs => by have := hSL.out _ hs; omega, .inl (.inr h)⟩
  · rintro e W2 ⟨⟨v2, rfl⟩, S, hj, hS, hsz⟩
    obtain ⟨a1, out, c1, j1, j2, j3, j4, j5, j6, j7, j8, j9⟩ := (hJ _ _ _).1 hj
    clear hj hJ
    have hlast : out = livesOf k l := by simpa [livesFrom] using j4
    subst hlast
    have HJ := Lib.hid (And.intro j3 (And.intro j7 (And.intro j8 hL2)))
    refine ⟨_, _, run_endLoop j6 (by rw [hREC]; simp), ?_⟩
    have HRE := Lib.hid hREC
    rw [hREC]
    clear j3 j4 j7 j8 hREC hL2 hL1 hob hln hD hrd hrb hcell hfz
    dsimp only
    refine named_put (by omega) fun W5 hF5 hL5 hz5 => ?_
    have o5 := fr_cell hF5 j1 (by show ¬ Bo = _; omega)
    gi_wp2
    have hK := (hF5.block Wp.heap.size (by omega) (by show ¬ Wp.heap.size = _; omega)).trans HJ.out.2.1
    refine ⟨by simp, .inl ⟨_, _, rfl, run_takeDeferred hK, ?_⟩⟩
    have hF6 : Fr (fun i => i = Wp.heap.size + 1 ∨ i = Wp.heap.size) W2 (W5.putObj Wp.heap.size (.deferred none)) := fr_trans (fr_mono hF5 fun i h => .inl h) (fr_putObj W5 _ _) fun i _ h => .inr h
    exact ⟨.slice a1 (livesOf k l).length c1, by simp [results, Tryz.results15, go_sem], _, rfl, winC_mono (winC_move HJ.out.1 hF6 fun i hi h => by have := hi.1; rcases h with h | h <;> omega) fun i hi => by have := hi.1; omega, HJ.out.2.2.1.trans (below_of_fr hF6 (by have := HJ.out.2.2.1.size; omega) fun i hi => by rcases hi with h | h <;> omega)⟩
set_option maxHeartbeats 1000000 in
theorem rLives_any (k : Int) (v : Value) (l : List Step) (w : World) (hr : Rd Step.cells 4 w v l) :
    Calls Tryz.prog 4 #[.agg #[.int .i64 k, v]] w fun e w' => ∃ v, e = .returned (.tuple #[v, .int .i64 (livesP k l).2]) ∧ Win Life.cells 4 41 w' v (fun i => w.heap.size ≤ i) (livesP k l).1 ∧ Below w.heap.size w w' := by
  obtain ⟨a, c, rfl⟩ : ∃ a c, v = .slice a l.length c := by obtain ⟨_, a, c, rfl, _⟩ := hr; exact ⟨a, c, rfl⟩
  have HR := Lib.hid hr
  clear hr
  have HBL := Lib.hid (fun o => (Below.refl w.heap.size w).alloc (Nat.le_refl _) o)
  have hcon := fun o => isLine_any k _ l _ (HR.out.below (HBL.out o))
  cases hi : isLineP k l with
  | false =>
    have hat : livesP k l = ([], 2) := by simp [livesP, hi]
    rw [hat]
    rw [hi] at hcon
    have HC := Lib.hid hcon
    clear hat hi hcon
    go_enter Tryz.func4, Tryz.ntmps4
    go_wp2_with (go_at_call 14; refine (HC.out _).mono ?_; rintro e w1 ⟨rfl, hb1⟩)
    go_ret2
    exact ⟨_, rfl, winC_nil _ _ _ _, (HBL.out _).trans (hb1.mono (by simp))⟩
  | true =>
    have hat : livesP k l = (livesOf k l, 0) := by simp [livesP, hi]
    rw [hat]
    rw [hi] at hcon
    have HC := Lib.hid hcon
    have HO := Lib.hid hi
    clear hat hi hcon
    go_enter Tryz.func4, Tryz.ntmps4
    go_wp2_with (first | (go_at_call 14; refine (HC.out _).mono ?_; rintro e w1 ⟨rfl, hb1⟩; have c0 := below_cell hb1 (World.cell?_alloc_new w #[.int .i64 k, .slice a l.length c] 25 0); have c1 := below_cell hb1 (World.cell?_alloc_new w #[.int .i64 k, .slice a l.length c] 25 1)) | (go_at_call 15; refine (rlives_any k _ l _ (HR.out.below ((HBL.out _).trans (hb1.mono (by simp)))) HO.out).mono ?_; rintro e w2 ⟨v2, rfl, hw2, hb2⟩))
    go_ret2
    have hb0 : Below w.heap.size w w1 := (HBL.out _).trans (hb1.mono (by simp))
    exact ⟨_, rfl, winC_mono hw2 fun i hi => Nat.le_trans hb0.size hi, hb0.trans (hb2.mono hb0.size)⟩
end Go.Proofs.YtkoeplbkeboklaaGreat
/- retro.Slim. -/
set_option linter.unusedVariables false
set_option linter.unusedSimpArgs false
namespace Go.Proofs.YtkoeplbkeboklaaGreat
open Go.RowKit
theorem zero_bool (w : World) : (zeroValue 4).run Tryz.prog w = .ok (.bool false) w := by kernel_rfl
set_option maxHeartbeats 4000000 in
theorem rSlim_any (k : Int) (v : Value) (l : List Step) (t : Int) (w : World) (hr : Rd Step.cells 4 w v l) :
    Calls Tryz.prog 28 #[.agg #[.int .i64 k, v], .int .i64 t] w fun e w' =>
      ∃ v', e = .returned (.tuple #[.agg #[.int .i64 (slimP k l t).1.1, v'], .int .i64 (slimP k l t).2]) ∧ Win Step.cells 4 46 w' v' (fun i => w.heap.size ≤ i) (slimP k l t).1.2 ∧ Below w.heap.size w w' := by
  obtain ⟨a, c, rfl⟩ : ∃ a c, v = .slice a l.length c := by obtain ⟨_, a, c, rfl, _⟩ := hr; exact ⟨a, c, rfl⟩
  have HR := Lib.hid hr
  have HC := Lib.hid (fun W h => isLine_any k _ l W (hr.below h))
  clear hr
  cases hl : isLineP k l with
  | false =>
    have hat : slimP k l t = ((0, []), 2) := by simp [slimP, hl]
    rw [hat]
    rw [hl] at HC
    clear hat hl
    go_enter Tryz.func28, Tryz.ntmps28
    go_wp2_with fail
    refine named_box2 (G := fun W => Calls _ _ _ W _) w _ _ _ _ fun W0 hb0 hz0 hx0 hx1 => ?_
    refine (HC.out _ hb0).mono ?_
    rintro e w1 ⟨rfl, hb1⟩
    have hB := hb0.trans (hb1.mono (by omega))
    have hr2 := (hb1.block _ (by omega)).trans hx1
    have f0 := cell_blk hr2 0
    have f1 := cell_blk hr2 1
    have k0 := free_blk hr2 0
    have k1 := free_blk hr2 1
    have hE := line_end (k := 0) hB.size hB hr2 (by omega) (win_nil Step.cells 4 46 w1 (fun i => i ≠ w.heap.size + 1 ∧ w.heap.size ≤ i)) (fun i hi => hi)
    have HE := Lib.hid (hE _ rfl)
    clear hE hB hr2
    go_wp2
    have g0 := HE.out.1
    have g1 := HE.out.2.1
    exact bodyPost_ret (v := .tuple #[.agg #[.int .i64 0, .slice none 0 0], .int .i64 2]) (by simp [results, Tryz.results28, go_sem, g0, g1]) rfl ⟨_, rfl, winC_nil _ _ _ _, HE.out.2.2.2⟩

  | true =>
    have hat : slimP k l t = ((k, slimOf k l (capT t)), 0) := by simp [slimP, hl]
    rw [hat]
    obtain ⟨T, hT⟩ : ∃ T, min t 1000 = T := ⟨_, rfl⟩
    rw [show capT t = T by rw [← hT]; unfold capT; split <;> omega]
    have HT := Lib.hid hT
    clear hT
    rw [hl] at HC
    have hlen := (isLineP_spec hl).2.2.1
    have HLV := Lib.hid (fun W h => rlives_any k _ l W (HR.out.below h) hl)
    have HND := Lib.hid (livesOf_nodup (k := k) (isLineP_spec hl).2.2.2.2)
    have hLl := livesOf_length k l
    clear hat hl
    go_enter Tryz.func28, Tryz.ntmps28
    go_wp2_with fail
    refine named_box2 (G := fun W => Calls _ _ _ W _) w _ _ _ _ fun W0 hb0 hz0 hx0 hx1 => ?_
    refine (HC.out _ hb0).mono ?_
    rintro e w1 ⟨rfl, hb1⟩
    have hB1 := hb0.trans (hb1.mono (by omega))
    have hz1 := hb1.size
    have d0 : w1.cell? ⟨w.heap.size, 0, none⟩ = some (.int .i64 k) := below_cell hb1 (cell_blk hx0 0)
    have d1 : w1.cell? ⟨w.heap.size, 1, none⟩ = some (.slice a l.length c) := below_cell hb1 (cell_blk hx0 1)
    have HB1 := Lib.hid (And.intro hB1 ((hb1.block _ (by omega)).trans hx1))
    clear hB1 hx0 hx1 hb0 hb1
    have e0 := fun o => below_cell ((Below.refl w1.heap.size w1).alloc (Nat.le_refl _) o) d0
    have e1 := fun o => below_cell ((Below.refl w1.heap.size w1).alloc (Nat.le_refl _) o) d1
    have hc := HT.out
    have hmm := @run_makeMap Tryz.prog
    go_wp2_with fail
    clear hc e0 e1 hmm
    refine named_any (G := fun W => Calls _ _ _ W _) w1 _ fun W2 hb2 hz2 hx2 => ?_
    have hB2 : Below w.heap.size w W2 := HB1.out.1.trans (hb2.mono HB1.out.1.size)
    refine (HLV.out _ hB2).mono ?_
    rintro e w3 ⟨vL, rfl, hwL, hb3⟩
    have hrL := win_rd life_len hwL
    obtain ⟨aL, cL, rfl, _, _⟩ := winC_slice hwL
    have hB3 : Below w.heap.size w w3 := hB2.trans (hb3.mono hB2.size)
    have hb23 := hb2.trans (hb3.mono hb2.size)
    have p0 := below_cell hb23 d0
    have p1 := below_cell hb23 d1
    have ho3 := (hb3.block w1.heap.size (by omega)).trans hx2
    have hR3 := (hb23.block (w.heap.size + 1) (by omega)).trans HB1.out.2
    have hz3 : w1.heap.size < w3.heap.size := by have := hb3.size; omega
    have hzr : w.heap.size + 1 < w1.heap.size := by omega
    have hoL : ∀ i, some i = (Value.slice aL (livesOf k l).length cL).ownBlock → w1.heap.size < i := fun i hi => by have := (winC_ob hwL i hi).1; omega
    have hm3 : MapOf w3 w1.heap.size [] := ⟨#[], 0, ho3, MapKept.stamped_empty 0, .refl _⟩
    have H3 := Lib.hid (And.intro hB3 (And.intro hm3 hR3))
    clear hb2 hb3 hb23 hx2 hB2 hB3 hwL ho3 hR3 hz2 d0 d1 hz1 hm3
    generalize hM : w1.heap.size = M at *
    obtain ⟨L, hLL⟩ : ∃ L, L = livesOf k l := ⟨_, rfl⟩
    rw [← hLL] at hLl HND hrL hoL
    rw [← hLL]
    have HRL := Lib.hid hrL
    have HOB := Lib.hid hoL
    have HLL := Lib.hid hLL
    clear hM hrL hoL hLL
    go_wp2
    go_loopw [22] (fun i W => ∃ (n : Nat), i = .int .i64 n ∧ n ≤ L.length ∧ MapOf W M (aliveKv T (L.take n)) ∧ Fr (fun j => j = M) w3 W) (fun i _ => L.length - (intOf i).toNat)
    case atStart => exact ⟨0, rfl, by omega, H3.out.2.1, fr_refl _ _⟩
    case round =>
      obtain ⟨n, rfl, hnl, hm, hF⟩ := hrel
      by_cases hlt : n < L.length
      · have hy := List.getElem?_eq_getElem hlt
        generalize L[n] = y at hy
        have hrl : Rd Life.cells 4 wr (.slice aL L.length cL) L := rd_move HRL.out hF fun i hi h => by have := HOB.out i hi; omega
        obtain ⟨b2, o2, rfl, hbl2, hc⟩ := rd_at hrl hy
        have y0 : wr.cell? ⟨b2, o2 + n * 4, none⟩ = some (.int .i64 y.from_) := hc 0 _ rfl
        have y1 := hc 1 _ rfl
        have y2 := hc 2 _ rfl
        have y3 := hc 3 _ rfl
        have hmo := fun o => mapOf_move hm (fr_alloc (fun _ => False) wr o) (fun h => h)
        have hsz := hF.size
        obtain ⟨w5, hup, hm5, hf5, hs5⟩ := run_update_of (P := Tryz.prog) (T := 91) Tryz.underlying91 Tryz.underlying3 (hmo (.cells #[.int .i64 y.from_, .int .i64 y.to_, .int .i64 y.key, .int .i64 y.val] 41)) y.from_ (.bool (decide (T < y.to_)))
        have HX := Lib.hid (And.intro hy (And.intro hm5 (And.intro hF (And.intro hf5 hs5))))
        clear hy hmo hF hm hrl hc hm5 hf5 hs5
        set_option maxRecDepth 10000 in
        go_wp2
        go_roundw
        case rel => exact ⟨n + 1, by go_num, by omega, by rw [aliveKv_succ HX.out.1]; exact HX.out.2.1, fr_trans HX.out.2.2.1 (fr_trans (fr_alloc _ wr _) HX.out.2.2.2.1 fun _ _ h => h) fun _ _ h => h⟩
        case measure => simp [intOf]; omega
      · obtain rfl : n = L.length := by omega
        rw [List.take_length] at hm
        obtain ⟨wM, rfl⟩ : ∃ x : World, x = wr := ⟨wr, rfl⟩
        have hBr : Below w.heap.size w wM := H3.out.1.trans (below_of_fr hF H3.out.1.size fun i hi => by omega)
        have d0 := fr_cell hF p0 (by show ¬ w.heap.size = M; omega)
        have d1 := fr_cell hF p1 (by show ¬ w.heap.size = M; omega)
        have hR := (hF.block (w.heap.size + 1) (by omega) (by omega)).trans H3.out.2.2
        have hz4 := hF.size
        have HM := Lib.hid (And.intro hm (And.intro hBr hR))
        have e0 := fun o => below_cell ((Below.refl wM.heap.size wM).alloc (Nat.le_refl _) o) d0
        have e1 := fun o => below_cell ((Below.refl wM.heap.size wM).alloc (Nat.le_refl _) o) d1
        obtain ⟨p, hp⟩ : ∃ p : Step → Bool, p = keepP L T := ⟨_, rfl⟩
        have HP := Lib.hid hp
        clear hm hBr hR hF p0 p1 hp
        have hMr : M < wM.heap.size := by omega
        go_wp2
        clear e0 e1
        generalize hO : wM.heap.size = O at *
        have HO := Lib.hid hO
        clear hO
        go_loopw [40] (fun i W => ∃ (n : Nat) (a1 : Option Addr) (c1 : Nat), i = .int .i64 n ∧ n ≤ l.length ∧ W.heap[O]? = some (.cells #[.int .i64 k, .slice a1 ((l.take n).filter p).length c1] 25 (0, 0)) ∧ Win Step.cells 4 46 W (.slice a1 ((l.take n).filter p).length c1) (fun j => O < j) ((l.take n).filter p) ∧ Fr (fun _ => False) wM W) (fun i _ => l.length - (intOf i).toNat)
        case atStart => exact ⟨0, none, 0, rfl, by omega, by have := heap_alloc_new wM (.cells #[.int .i64 k, .slice none 0 0] 25); rw [HO.out] at this; exact this, winC_nil _ _ _ _, fr_alloc _ _ _⟩
        case round =>
          obtain ⟨n, a1, c1, rfl, hnl, hO, hw, hF⟩ := hrel
          have hBw : Below w.heap.size w wr := HM.out.2.1.trans (below_of_fr hF (HM.out.2.1).size fun i hi => hi.elim)
          by_cases hlt : n < l.length
          · have hx := List.getElem?_eq_getElem hlt
            generalize l[n] = s at hx
            obtain ⟨b, off, rfl, hbl, hc⟩ := rd_at (HR.out.below hBw) hx
            have q0 : wr.cell? ⟨b, off + n * 4, none⟩ = some (.int .i64 s.at_) := hc 0 _ rfl
            have q1 := hc 1 _ rfl
            have q2 := hc 2 _ rfl
            have q3 := hc 3 _ rfl
            have hOl : O < wr.heap.size := (Array.getElem?_eq_some_iff.1 hO).1
            have hlk : ∀ o, (Instr.lookup 91 (.map (some M)) (.int .i64 s.at_) false).run Tryz.prog (wr.alloc o) = .ok (.bool (aliveP L T s.at_)) (wr.alloc o) := fun o => by
              have h := run_lookup_of (P := Tryz.prog) (T := 91) Tryz.underlying91 Tryz.underlying3 (zero_bool _) (mapOf_move HM.out.1 (fr_trans hF (fr_alloc _ wr o) fun _ _ h => h) (fun h => h)) s.at_ false
              rw [aliveKv_get HND.out] at h
              simpa using h
            have hps : p s = (decide (T < s.at_) || aliveP L T s.at_) := by rw [HP.out]; rfl
            have hfs := filter_take_succ p hx
            have hfl := filter_take_length p l n
            have c0 : ∀ o, (wr.alloc o).cell? ⟨O, 0, none⟩ = some (.int .i64 k) := fun o => below_cell ((Below.refl wr.heap.size wr).alloc (Nat.le_refl _) o) (cell_blk hO 0)
            have c1' : ∀ o, (wr.alloc o).cell? ⟨O, 1, none⟩ = some (.slice a1 ((l.take n).filter p).length c1) := fun o => below_cell ((Below.refl wr.heap.size wr).alloc (Nat.le_refl _) o) (cell_blk hO 1)
            have k1' := fun o => below_frozen ((Below.refl wr.heap.size wr).alloc (Nat.le_refl _) o) hOl (free_blk hO 1)
            have HX := Lib.hid (And.intro hfs (And.intro hO (And.intro hw hF)))
            clear hfs hO hw hF hBw hc hx
            generalize hxs : (l.take n).filter p = xs at *
            have HXS := Lib.hid hxs
            clear hxs
            cases hk : p s with
            | true =>
              have hor : decide (T < s.at_) = true ∨ (decide (T < s.at_) = false ∧ aliveP L T s.at_ = true) := by
                rw [hk] at hps
                cases h : decide (T < s.at_) with
                | true => exact .inl rfl
                | false => rw [h] at hps; exact .inr ⟨rfl, by simpa using hps.symm⟩
              rw [hk] at HX
              clear hk hps
              rcases hor with h1 | ⟨h1, h2⟩
              all_goals (try (rw [h2] at hlk; clear h2))
              all_goals
                have hob := winC_ob HX.out.2.2.1
                have HOW := Lib.hid hob
                clear hob
                go_wp2_with (at_builtin; (refine wpList_append_win _ (by rfl) _ _ _ (by rfl) 46 4 32 _ Tryz.underlying23 info_step rfl (by decide) _ _ xs.length _ (by rfl) (winC_move (winC_move HX.out.2.2.1 (fr_alloc (fun _ => False) wr _) (fun _ _ h => h)) (fr_alloc (fun _ => False) _ _) (fun _ _ h => h)) _ _ _ [.int .i64 s.at_, .int .i64 s.do_, .int .i64 s.key, .int .i64 s.val] (by rfl) (by rfl) (news2 wr _ _ _) (by simp [Value.oneCell']) (by decide) (by unfold maxLen; omega) (by omega) ?_); intro v3 w5 hwin3 hfr3 hsz3; obtain ⟨a4, c4, rfl, hn4, hm4⟩ := winC_slice hwin3; have F3 : Fr (fun i => some i = (Value.slice a1 xs.length c1).ownBlock) wr w5 := fr_trans (fr_trans (fr_alloc _ wr _) (fr_alloc _ _ _) fun _ _ h => h) hfr3 fun _ _ h => h; have c5 := fr_cell F3 (cell_blk HX.out.2.1 1) (fun h => by have := (HOW.out O h).1; omega); have k5 := fr_frozen F3 hOl (free_blk HX.out.2.1 1) (fun h => by have := (HOW.out O h).1; omega); have H5 := Lib.hid (And.intro hwin3 F3); clear hwin3 F3 hfr3)
                have hwA := H5.out.1
                have F5 := H5.out.2
                have hoA := (F5.block O hOl (fun h => by have := (HOW.out O h).1; omega)).trans HX.out.2.1
                have hoB := setCell_blk (o := 1) hoA (.slice a4 (xs.length + 1) c4)
                have hF6 : Fr (fun _ => False) wM (w5.setCell ⟨O, 1, none⟩ (.slice a4 (xs.length + 1) c4)) := fr_trans (fr_trans HX.out.2.2.2 F5 fun i hi h => by have := (HOW.out i h).1; have := HO.out; omega) (fr_setCell w5 _ _) fun i hi h => by have h2 : i = O := h; have := HO.out; omega
                have hw6 := winC_move hwA (fr_setCell w5 ⟨O, 1, none⟩ (.slice a4 (xs.length + 1) c4)) fun i hi (h : i = O) => by
                  rcases hi with hi | hi
                  · have := hi.1; omega
                  · simp at hi; omega
                have hz6 := F5.size
                have hxe : (l.take (n + 1)).filter p = xs ++ [s] := by rw [HX.out.1]; simp
                have HZ := Lib.hid (And.intro hoB (And.intro hF6 (And.intro hw6 hxe)))
                clear hwA F5 hoA hoB hF6 hw6 hxe c5 k5
                generalize w5.setCell ⟨O, 1, none⟩ (.slice a4 (xs.length + 1) c4) = w6 at *
                go_roundw
                case rel =>
                  refine ⟨n + 1, a4, c4, by go_num, by omega, ?_, ?_, HZ.out.2.1⟩
                  · rw [HZ.out.2.2.2, List.length_append]; exact HZ.out.1
                  · rw [HZ.out.2.2.2]
                    have h7 : WinC 4 46 w6 (.slice a4 (xs.length + 1) c4) (fun j => O < j) (xs.length + 1) (xs.flatMap Step.cells ++ [.int .i64 s.at_, .int .i64 s.do_, .int .i64 s.key, .int .i64 s.val]) := winC_mono HZ.out.2.2.1 fun i hi => by
                      rcases hi with hi | hi
                      · exact hi.1
                      · simp at hi; omega
                    simpa [Win, Step.cells] using h7
                case measure => simp [intOf]; omega
            | false =>
              have h1 : decide (T < s.at_) = false := by
                rw [hk] at hps
                cases h : decide (T < s.at_) with
                | false => rfl
                | true => rw [h] at hps; simp at hps
              have h2 : aliveP L T s.at_ = false := by rw [hk, h1] at hps; simpa using hps.symm
              rw [h2] at hlk
              rw [hk] at HX
              clear hk hps h2
              go_wp2
              go_roundw
              case rel =>
                have hxe : (l.take (n + 1)).filter p = xs := by rw [HX.out.1]; simp
                exact ⟨n + 1, a1, c1, by go_num, by omega, by rw [hxe]; exact (Below.heap_alloc wr _ O hOl).trans HX.out.2.1, by rw [hxe]; exact winC_move HX.out.2.2.1 (fr_alloc (fun _ => False) wr _) (fun _ _ h => h), fr_trans HX.out.2.2.2 (fr_alloc _ wr _) fun _ _ h => h⟩
              case measure => simp [intOf]; omega
          · obtain rfl : n = l.length := by omega
            rw [List.take_length] at hO hw
            have hfl : (l.filter p) = slimOf k l T := by rw [HP.out, HLL.out]; rfl
            have f0 := cell_blk hO 0
            have f1 := cell_blk hO 1
            have hR4 := (hF.block (w.heap.size + 1) (by have := HO.out; omega) (fun h => h)).trans HM.out.2.2
            have r0 := cell_blk hR4 0
            have r1 := cell_blk hR4 1
            have k0 := free_blk hR4 0
            have k1 := free_blk hR4 1
            rw [hfl] at hw f1
            have hE := line_end (k := k) hBw.size hBw hR4 (by omega) hw (fun i hi => by omega)
            have HE := Lib.hid (hE _ rfl)
            clear hE hBw hR4 hO hw hF hfl
            go_wp2
            have g0 := HE.out.1
            have g1 := HE.out.2.1
            exact bodyPost_ret (v := .tuple #[.agg #[.int .i64 k, .slice a1 (slimOf k l T).length c1], .int .i64 0]) (by simp [results, Tryz.results28, go_sem, g0, g1]) rfl ⟨_, rfl, HE.out.2.2.1, HE.out.2.2.2⟩
end Go.Proofs.YtkoeplbkeboklaaGreat
/- Runs of append, copy and clear within a block of the call's own, at elements of k cells. -/
set_option linter.unusedVariables false
set_option linter.unusedSimpArgs false
namespace Go.Proofs.YtkoeplbkeboklaaGreat
open Go.RowKit
/-- The row with the cells from o on overwritten. -/
def spl (cur : Array Value) (o : Nat) (cs : List Value) : Array Value := (cur.toList.take o ++ cs ++ cur.toList.drop (o + cs.length)).toArray
theorem spl_size {cur : Array Value} {o : Nat} {cs : List Value} (h : o + cs.length ≤ cur.size) : (spl cur o cs).size = cur.size := by
  simp [spl]; omega
theorem spl_list (cur : Array Value) (o : Nat) (cs : List Value) : (spl cur o cs).toList = cur.toList.take o ++ cs ++ cur.toList.drop (o + cs.length) := by simp [spl]
section
variable {P : Program} (w : World)
theorem run_append_room (t ty e : TypeId) (i : TypeInfo) (k : Nat) (ht : P.underlying t = some (.slice e)) (hi : P.info? e = some i) (hsize : i.size = k)
    (g off n cap : Nat) (cur : Array Value) (hg : w.heap[g]? = some (.cells cur e (0, 0))) (x : Value) (m : Nat) (news : List Value) (hx : RdC k w x m news) (hroom : n + m ≤ cap) (hcs : off + cap * k ≤ cur.size) :
    (Builtin.append_ #[t, t] ty #[.slice (some ⟨g, off, none⟩) n cap, x]).run P w = .ok (.slice (some ⟨g, off, none⟩) (n + m) cap) (w.setRow g (spl cur (off + n * k) news)) := by
  subst hsize
  obtain ⟨hl, h1, a, c, rfl, hc⟩ := hx
  have hfit : off + n * i.size + news.length ≤ cur.size := by
    have : (n + m) * i.size ≤ cap * i.size := Nat.mul_le_mul_right _ hroom
    rw [Nat.add_mul] at this
    rw [hl]; omega
  have hst := run_storeCells_at P g (off + n * i.size) e news 0 cur w hg (by simpa using hfit) h1
  simp only [Nat.add_zero] at hst
  have hf : (Builtin.firstCells i.size m (.slice a m c)).run P w = .ok news.toArray w := by
    by_cases hm : 0 < m
    · obtain ⟨b, o, rfl, _, hcc⟩ := hc hm
      exact run_firstCells_some (P := P) w i.size m ⟨b, o, none⟩ m c news hl (fun j u hu => by rw [addr_add]; exact hcc j u hu)
    · obtain rfl : m = 0 := by omega
      obtain rfl : news = [] := List.eq_nil_of_length_eq_zero (by simpa using hl)
      cases a <;> simp [Builtin.firstCells, loadCells, loadCellsFrom]
  simp [Builtin.append_, run_underlying ht, sizeOf, typeInfo, hi, Builtin.lenOf, hroom, hf, addr_add, hst, spl]
theorem run_first_rd (k m : Nat) (x : Value) (cs : List Value) (hx : RdC k w x m cs) : (Builtin.firstCells k m x).run P w = .ok cs.toArray w := by
  obtain ⟨hl, h1, a, c, rfl, hc⟩ := hx
  by_cases hm : 0 < m
  · obtain ⟨b, o, rfl, _, hcc⟩ := hc hm
    exact run_firstCells_some (P := P) w k m ⟨b, o, none⟩ m c cs hl (fun j u hu => by rw [addr_add]; exact hcc j u hu)
  · obtain rfl : m = 0 := by omega
    obtain rfl : cs = [] := List.eq_nil_of_length_eq_zero (by simpa using hl)
    cases a <;> simp [Builtin.firstCells, loadCells, loadCellsFrom]
theorem run_copy_k (dT sT ty e : TypeId) (i : TypeInfo) (k : Nat) (ht : P.underlying dT = some (.slice e)) (hi : P.info? e = some i) (hsize : i.size = k)
    (g o dl dc : Nat) (cur : Array Value) (T : TypeId) (hg : w.heap[g]? = some (.cells cur T (0, 0))) (x : Value) (m : Nat) (cs : List Value) (hx : RdC k w x m cs) (hm : m ≤ dl) (hfit : o + m * k ≤ cur.size) :
    (Builtin.copy_ #[dT, sT] ty #[.slice (some ⟨g, o, none⟩) dl dc, x]).run P w = .ok (goInt m) (w.setRow g (spl cur o cs)) := by
  subst hsize
  obtain ⟨hl, h1, a, c, rfl, hc⟩ := hx
  have hst := run_storeCells_at P g o T cs 0 cur w hg (by rw [hl]; simpa using hfit) h1
  simp only [Nat.add_zero] at hst
  have hmin : Nat.min m dl = m := Nat.min_eq_left hm
  have hf : (Builtin.firstCells i.size m (.slice a m c)).run P w = .ok cs.toArray w := by
    by_cases hm : 0 < m
    · obtain ⟨b, o, rfl, _, hcc⟩ := hc hm
      exact run_firstCells_some (P := P) w i.size m ⟨b, o, none⟩ m c cs hl (fun j u hu => by rw [addr_add]; exact hcc j u hu)
    · obtain rfl : m = 0 := by omega
      obtain rfl : cs = [] := List.eq_nil_of_length_eq_zero (by simpa using hl)
      cases a <;> simp [Builtin.firstCells, loadCells, loadCellsFrom]
  simp [Builtin.copy_, run_underlying ht, sizeOf, typeInfo, hi, Builtin.lenOf, hmin, hf, hst, spl]
/-- From a longer source. -/
theorem run_copy_to (dT sT ty e : TypeId) (i : TypeInfo) (k : Nat) (ht : P.underlying dT = some (.slice e)) (hi : P.info? e = some i) (hsize : i.size = k)
    (g o dl dc : Nat) (cur : Array Value) (T : TypeId) (hg : w.heap[g]? = some (.cells cur T (0, 0))) (a : Addr) (sl sc sc' : Nat) (cs : List Value) (hx : RdC k w (.slice (some a) dl sc') dl cs) (hm : dl ≤ sl) (hfit : o + dl * k ≤ cur.size) :
    (Builtin.copy_ #[dT, sT] ty #[.slice (some ⟨g, o, none⟩) dl dc, .slice (some a) sl sc]).run P w = .ok (goInt dl) (w.setRow g (spl cur o cs)) := by
  subst hsize
  obtain ⟨hl, h1, a', c', he, hc⟩ := hx
  injection he with he1 he2 he3
  have hst := run_storeCells_at P g o T cs 0 cur w hg (by rw [hl]; simpa using hfit) h1
  simp only [Nat.add_zero] at hst
  have hmin : Nat.min sl dl = dl := Nat.min_eq_right hm
  have hf : (Builtin.firstCells i.size dl (.slice (some a) sl sc)).run P w = .ok cs.toArray w := by
    by_cases hm : 0 < dl
    · obtain ⟨b, o, hb, _, hcc⟩ := hc hm
      rw [← he1] at hb
      injection hb with hb
      subst hb
      exact run_firstCells_some (P := P) w i.size dl ⟨b, o, none⟩ sl sc cs hl (fun j u hu => by rw [addr_add]; exact hcc j u hu)
    · obtain rfl : dl = 0 := by omega
      obtain rfl : cs = [] := List.eq_nil_of_length_eq_zero (by simpa using hl)
      simp [Builtin.firstCells, loadCells, loadCellsFrom]
  simp [Builtin.copy_, run_underlying ht, sizeOf, typeInfo, hi, Builtin.lenOf, hmin, hf, hst, spl]
theorem run_clear_k (t ty e : TypeId) (z : Value) (ht : P.underlying t = some (.slice e)) (hz : ∀ w, (zeroValue e).run P w = .ok z w) (h1 : ∀ u ∈ z.cells, u.oneCell' = true)
    (g o m c : Nat) (cur : Array Value) (hg : w.heap[g]? = some (.cells cur e (0, 0))) (hm : 0 < m) (hfit : o + m * z.cells.size ≤ cur.size) :
    (Builtin.clear_ #[t] ty #[.slice (some ⟨g, o, none⟩) m c]).run P w = .ok (.tuple #[]) (w.setRow g (spl cur o (Builtin.zeroCells z.cells m).toList)) := by
  have hsz : (Builtin.zeroCells z.cells m).toList.length = m * z.cells.size := by rw [Array.length_toList, size_zeroCells]
  have hall : ∀ v ∈ (Builtin.zeroCells z.cells m).toList, v.oneCell' = true := by
    intro v hv
    rw [Builtin.zeroCells, Array.toList_map, List.mem_map] at hv
    obtain ⟨q, hq, rfl⟩ := hv
    have hq2 : q < m * z.cells.size := by simpa using hq
    have hpos : 0 < z.cells.size := by rcases Nat.eq_zero_or_pos z.cells.size with h | h; rw [h] at hq2; omega; exact h
    have hlt : q % z.cells.size < z.cells.size := Nat.mod_lt _ hpos
    rw [getElem!_pos z.cells _ hlt]
    exact h1 _ (Array.getElem_mem hlt)
  have hst := run_storeCells_at P g o e (Builtin.zeroCells z.cells m).toList 0 cur w hg (by rw [hsz]; simpa using hfit) hall
  simp only [Nat.add_zero] at hst
  obtain ⟨m, rfl⟩ : ∃ q, m = q + 1 := ⟨m - 1, by omega⟩
  simp [Builtin.clear_, run_underlying ht, hz, hst, spl]
theorem wp_copy_run {o : Oper} {a : Act} {K : Act → World → Prop} {Q : Exit → Act → World → Prop} (d s : Operand) (t t' : TypeId)
    (ho : o.op = .call { callee := .builtin .copy, args := #[d, s], argTypes := #[t, t'] }) (v u : Value) (hd : a.eval d = v) (hs : a.eval s = u) {v' : Value} {w' : World}
    (hr : (Builtin.copy_ #[t, t'] o.type #[v, u]).run P w = .ok v' w') (h : K (a.put o.dst v') w') : o.wp P a w K Q := by
  unfold Oper.wp execOp
  simp only [ho, resolve, invoke, builtin, Sem.run_bind, Sem.run_pure, Result.andThen_ok, List.map_toArray, List.map_cons, List.map_nil, hd, hs, hr]
  exact h
theorem wpList_copy_run' {ops : Array Oper} {rest : List Oper} {o : Oper} {a : Act} {Q : Exit → Act → World → Prop} (hgd : o.guard = none) (d s : Operand) (t t' : TypeId)
    (ho : o.op = .call { callee := .builtin .copy, args := #[d, s], argTypes := #[t, t'] }) (v u : Value) (hd : a.eval d = v) (hs : a.eval s = u) {v' : Value} {w' : World}
    (hr : (Builtin.copy_ #[t, t'] o.type #[v, u]).run P w = .ok v' w') (h : wpList P ops Q rest (a.put o.dst v') w') : wpList P ops Q (o :: rest) a w :=
  wpList_plain hgd fun _ hK => wp_copy_run w d s t t' ho v u hd hs hr (hK _ _ h)
theorem step_copy_run {ops : Array Oper} {o : Oper} {a : Act} {K : Act → World → Prop} {Q : Exit → Act → World → Prop} {E : Prop} (hgd : o.guard = none) (d s : Operand) (t t' : TypeId)
    (ho : o.op = .call { callee := .builtin .copy, args := #[d, s], argTypes := #[t, t'] }) (v u : Value) (hd : a.eval d = v) (hs : a.eval s = u) {v' : Value} {w' : World}
    (hr : (Builtin.copy_ #[t, t'] o.type #[v, u]).run P w = .ok v' w') (h : K (a.put o.dst v') w') : if Region.wanted o (yielded ops a.tmps) = true then Oper.wp P o a w K Q else E := by
  have hw : Region.wanted o (yielded ops a.tmps) = true := by simp [Region.wanted, hgd]
  rw [if_pos hw]
  exact wp_copy_run w d s t t' ho v u hd hs hr h
theorem wp_append_run {o : Oper} {a : Act} {K : Act → World → Prop} {Q : Exit → Act → World → Prop} (d s : Operand) (t t' : TypeId)
    (ho : o.op = .call { callee := .builtin .append, args := #[d, s], argTypes := #[t, t'] }) (v u : Value) (hd : a.eval d = v) (hs : a.eval s = u) {v' : Value} {w' : World}
    (hr : (Builtin.append_ #[t, t'] o.type #[v, u]).run P w = .ok v' w') (h : K (a.put o.dst v') w') : o.wp P a w K Q := by
  unfold Oper.wp execOp
  simp only [ho, resolve, invoke, builtin, Sem.run_bind, Sem.run_pure, Result.andThen_ok, List.map_toArray, List.map_cons, List.map_nil, hd, hs, hr]
  exact h
theorem wpList_append_run {ops : Array Oper} {rest : List Oper} {o : Oper} {a : Act} {Q : Exit → Act → World → Prop} (hgd : o.guard = none) (d s : Operand) (t t' : TypeId)
    (ho : o.op = .call { callee := .builtin .append, args := #[d, s], argTypes := #[t, t'] }) (v u : Value) (hd : a.eval d = v) (hs : a.eval s = u) {v' : Value} {w' : World}
    (hr : (Builtin.append_ #[t, t'] o.type #[v, u]).run P w = .ok v' w') (h : wpList P ops Q rest (a.put o.dst v') w') : wpList P ops Q (o :: rest) a w :=
  wpList_plain hgd fun _ hK => wp_append_run w d s t t' ho v u hd hs hr (hK _ _ h)
theorem step_append_run {ops : Array Oper} {o : Oper} {a : Act} {K : Act → World → Prop} {Q : Exit → Act → World → Prop} {E : Prop} (hgd : o.guard = none) (d s : Operand) (t t' : TypeId)
    (ho : o.op = .call { callee := .builtin .append, args := #[d, s], argTypes := #[t, t'] }) (v u : Value) (hd : a.eval d = v) (hs : a.eval s = u) {v' : Value} {w' : World}
    (hr : (Builtin.append_ #[t, t'] o.type #[v, u]).run P w = .ok v' w') (h : K (a.put o.dst v') w') : if Region.wanted o (yielded ops a.tmps) = true then Oper.wp P o a w K Q else E := by
  have hw : Region.wanted o (yielded ops a.tmps) = true := by simp [Region.wanted, hgd]
  rw [if_pos hw]
  exact wp_append_run w d s t t' ho v u hd hs hr h
theorem wpList_clear_run {ops : Array Oper} {rest : List Oper} {o : Oper} {a : Act} {Q : Exit → Act → World → Prop} (hgd : o.guard = none) (d : Operand) (t : TypeId)
    (ho : o.op = .call { callee := .builtin .clear, args := #[d], argTypes := #[t] }) (v : Value) (hd : a.eval d = v) {v' : Value} {w' : World}
    (hr : (Builtin.clear_ #[t] o.type #[v]).run P w = .ok v' w') (h : wpList P ops Q rest (a.put o.dst v') w') : wpList P ops Q (o :: rest) a w := by
  refine wpList_plain hgd fun K hK => ?_
  unfold Oper.wp execOp
  simp only [ho, resolve, invoke, builtin, Sem.run_bind, Sem.run_pure, Result.andThen_ok, List.map_toArray, List.map_cons, List.map_nil, hd, hr]
  exact hK _ _ h
end
end Go.Proofs.YtkoeplbkeboklaaGreat
/- The reference's Without. -/
set_option linter.unusedVariables false
set_option linter.unusedSimpArgs false
namespace Go.Proofs.YtkoeplbkeboklaaGreat
open Go.RowKit
theorem without_len {l : List Step} {i : Nat} (h : i < l.length) : (withoutP l i).length = i + (l.length - (i + 1)) := by simp [withoutP]; omega
theorem without_flat {l : List Step} {i : Nat} (enc : Step → List Value) : (withoutP l i).flatMap enc = ((l.drop 0).take i).flatMap enc ++ ((l.drop (i + 1)).take (l.length - (i + 1))).flatMap enc := by
  rw [withoutP, List.flatMap_append, List.drop_zero, List.take_of_length_le (l := l.drop (i + 1)) (by simp)]
end Go.Proofs.YtkoeplbkeboklaaGreat
/- slices.Delete of one step, in a list of the call's own. -/
set_option linter.unusedVariables false
set_option linter.unusedSimpArgs false
namespace Go.Proofs.YtkoeplbkeboklaaGreat
open Go.RowKit
theorem zero_step (w : World) : (zeroValue 46).run Tryz.prog w = .ok (.agg #[.int .i64 0, .int .i64 0, .int .i64 0, .int .i64 0]) w := by kernel_rfl
theorem del_list {L Y : List Value} {off m i : Nat} (hi : i ≤ m) (hL : off + (m + 1) * 4 ≤ L.length) (hY : Y.length = (m - i) * 4) (n : Nat) :
    ((L.take (off + i * 4) ++ Y ++ L.drop n).drop off).take (m * 4) = ((L.drop off).take ((m + 1) * 4)).take (i * 4) ++ Y := by
  have h1 : (L.take (off + i * 4)).drop off = (L.drop off).take (i * 4) := by rw [List.drop_take]; congr 1; omega
  rw [List.append_assoc, List.drop_append_of_le_length (by rw [List.length_take]; omega), h1, List.take_take, Nat.min_eq_left (by omega), ← List.append_assoc]
  have h2 : m * 4 = ((L.drop off).take (i * 4) ++ Y).length := by rw [List.length_append, List.length_take, List.length_drop, hY]; omega
  rw [h2]
  exact List.take_left
theorem flat_take {α : Type} {enc : α → List Value} {k : Nat} (hk : ∀ x, (enc x).length = k) : ∀ (ys : List α) (m : Nat), (ys.take m).flatMap enc = (ys.flatMap enc).take (m * k)
  | [], m => by simp
  | y :: ys, 0 => by simp
  | y :: ys, m + 1 => by
    rw [List.take_succ_cons, List.flatMap_cons, List.flatMap_cons, flat_take hk ys m, List.take_append, List.take_of_length_le (l := enc y) (by rw [hk, Nat.add_mul, Nat.one_mul]; omega), hk, show (m + 1) * k - k = m * k by rw [Nat.add_mul, Nat.one_mul]; omega]
theorem setRow_at {w : World} {g : Nat} {cur cs : Array Value} {e : TypeId} (hg : w.heap[g]? = some (.cells cur e (0, 0))) : (w.setRow g cs).heap[g]? = some (.cells cs e (0, 0)) := setRow_heap w g cur cs e _ hg
set_option maxHeartbeats 4000000 in
theorem delSteps_any (g off c m i : Nat) (S : Nat → Prop) (l : List Step) (w : World) (hw : Win Step.cells 4 46 w (.slice (some ⟨g, off, none⟩) (m + 1) c) S l) (hn : l.length = m + 1) (hi : i ≤ m) (hl : m < 100000) :
    Calls Tryz.prog 43 #[.slice (some ⟨g, off, none⟩) (m + 1) c, .int .i64 i, .int .i64 (i + 1)] w fun e w' => ∃ v, e = .returned v ∧ Win Step.cells 4 46 w' v S (withoutP l i) ∧ Fr (fun j => j = g) w w' := by
  obtain ⟨cur, hS, hg, hnc, hcm, hcs, ht⟩ : ∃ cur, S g ∧ w.heap[g]? = some (.cells cur 46 (0, 0)) ∧ m + 1 ≤ c ∧ c ≤ maxLen ∧ off + c * 4 ≤ cur.size ∧ (cur.toList.drop off).take ((m + 1) * 4) = l.flatMap Step.cells := by
    rcases hw.2 with ⟨h1, _⟩ | ⟨g', off', cap, cur, hv, hS, hg, h1, h2, h3, h4⟩
    · simp at h1
    · injection hv with e1 e2 e3
      injection e1 with e1
      injection e1 with e1 e4
      subst e1; subst e4; subst e3
      rw [hn] at h4
      exact ⟨cur, hS, hg, by omega, h2, h3, h4⟩
  have hrd : Rd Step.cells 4 w (.slice (some ⟨g, off, none⟩) (m + 1) c) l := win_rd step_len hw
  have HC := Lib.hid (And.intro hS (And.intro hg (And.intro hcs ht)))
  have HR := Lib.hid (fun off' c' h => rdC_cut step_len (by decide) step_one hrd (i + 1) (m - i) (by omega) off' c' h)
  have HN := Lib.hid hn
  simp only [maxLen] at hcm
  have n1 : (i : Int) + 1 ≤ (m : Int) + 1 := by omega
  have n2 : (0 : Int) ≤ (i : Int) + 1 := by omega
  have n3 : (i : Int) ≤ (i : Int) + 1 := by omega
  have n4 : ¬ ((i : Int) = (i : Int) + 1) := by omega
  have n5 : (m : Int) + 1 ≤ (c : Int) := by omega
  have n6 : (i : Int) ≤ (m : Int) + 1 := by omega
  have n7 : (i : Int) ≤ (c : Int) := by omega
  clear hw hrd hS hg hcs ht hn
  go_enter Tryz.func43, Tryz.ntmps43
  by_cases hc : c = i + 1
  · obtain rfl : m = i := by omega
    subst hc
    obtain ⟨i0, hi0, hz⟩ := Option.map_eq_some_iff.1 info_step
    simp only [Prod.mk.injEq] at hz
    have hra := fun ty => run_append_room (P := Tryz.prog) w.drew 23 ty 46 i0 4 Tryz.underlying23 hi0 hz.2.1 g off m (m + 1) cur HC.out.2.1 (.slice (some ⟨g, off, none⟩) 0 (0)) 0 ((l.drop (m + 1)).flatMap Step.cells) (by rw [List.drop_of_length_le (by rw [HN.out]; omega)]; exact rdC_zero 4 w.drew (some ⟨g, off, none⟩) 0) (by omega) HC.out.2.2.1
    rw [Nat.add_zero m] at hra
    have hY : (((l.drop (m + 1)).flatMap Step.cells) : List Value) = (l.drop (m + 1)).flatMap Step.cells := rfl
    rw [hY] at hra
    have hYl : ((l.drop (m + 1)).flatMap Step.cells).length = (m - m) * 4 := by rw [flat_len step_len, List.length_drop, HN.out]; omega
    have hlist := del_list (L := cur.toList) (Y := (l.drop (m + 1)).flatMap Step.cells) (off := off) (m := m) (i := m) (by omega) (by have := HC.out.2.2.1; rw [Array.length_toList]; omega) hYl (off + m * 4 + ((l.drop (m + 1)).flatMap Step.cells).length)
    rw [← spl_list, HC.out.2.2.2, ← flat_take step_len, ← List.flatMap_append] at hlist
    have hsz := spl_size (cur := cur) (o := off + m * 4) (cs := (l.drop (m + 1)).flatMap Step.cells) (by have := HC.out.2.2.1; rw [hYl]; omega)
    generalize spl cur (off + m * 4) ((l.drop (m + 1)).flatMap Step.cells) = cur1 at *
    have HA := Lib.hid hra
    have HL := Lib.hid (And.intro hlist hsz)
    clear hra hY hYl hlist hsz hi0 hz
    go_wp2
    go_region_law (refine step_append_run _ (by rfl) _ _ _ _ (by rfl) (.slice (some ⟨g, off, none⟩) m (m + 1)) (.slice (some ⟨g, off, none⟩) 0 (0)) (by go_simp <;> rfl) (by go_simp <;> rfl) (HA.out _) ?_)
    have hW1 : (w.drew.setRow g cur1).heap[g]? = some (.cells cur1 46 (0, 0)) := setRow_at (w := w.drew) HC.out.2.1
    have hF1 : Fr (fun j => j = g) w (w.drew.setRow g cur1) := fr_trans (fr_of_below (Below.refl _ _).drew) (fr_setRow _ _ _) fun _ _ h => h
    have hcl := fun ty => run_clear_k (P := Tryz.prog) (w.drew.setRow g cur1) 23 ty 46 _ Tryz.underlying23 zero_step (by simp [Value.cells, Value.oneCell']) g (off + m * 4) 1 (1) cur1 hW1 (by omega) (by have := HC.out.2.2.1; have := HL.out.2; simp [Value.cells]; omega)
    have HCL := Lib.hid (And.intro hcl (And.intro hW1 hF1))
    clear hcl hW1 hF1
    generalize w.drew.setRow g cur1 = W1 at *
    have m1 : (m : Int) ≤ (m : Int) + 1 := by omega
    have hclr := HCL.out.1
    obtain ⟨W2, hW2⟩ : ∃ W2, W1.setRow g (spl cur1 (off + m * 4) (Builtin.zeroCells (Value.agg #[.int .i64 0, .int .i64 0, .int .i64 0, .int .i64 0]).cells 1).toList) = W2 := ⟨_, rfl⟩
    rw [hW2] at hclr
    have HW2 := Lib.hid hW2
    clear hW2
    go_wp2
    go_ret
    rw [← HW2.out]
    refine ⟨_, rfl, ?_, fr_trans HCL.out.2.2 (fr_setRow _ _ _) fun _ _ h => h⟩
    have hsz2 := HL.out.2
    have hcs := HC.out.2.2.1
    have hwl : (withoutP l m).length = m := by rw [withoutP, List.length_append, List.length_take, List.length_drop, HN.out]; omega
    refine ⟨by rw [flat_len step_len], .inr ⟨g, off, (m + 1), _, by rw [hwl]; rfl, HC.out.1, setRow_at HCL.out.2.1, by omega, by unfold maxLen; omega, ?_, ?_⟩⟩
    · rw [spl_size (by simp [size_zeroCells, Value.cells]; omega)]
      omega
    · rw [spl_list, hwl, List.append_assoc, List.drop_append_of_le_length (by rw [List.length_take, Array.length_toList]; omega), List.drop_take, List.take_append_of_le_length (by rw [List.length_take, List.length_drop, Array.length_toList]; omega), show off + m * 4 - off = m * 4 by omega, List.take_take, Nat.min_self, HL.out.1]
      rfl

  · have hc2 : ¬ (c : Int) = (i : Int) + 1 := by omega
    obtain ⟨i0, hi0, hz⟩ := Option.map_eq_some_iff.1 info_step
    simp only [Prod.mk.injEq] at hz
    have hra := fun ty => run_append_room (P := Tryz.prog) w.drew 23 ty 46 i0 4 Tryz.underlying23 hi0 hz.2.1 g off i c cur HC.out.2.1 (.slice (some ⟨g, off + (i + 1) * 4, none⟩) (m - i) (c - (i + 1))) (m - i) (((l.drop (i + 1)).take (m - i)).flatMap Step.cells) (rdC_below (HR.out (off + (i + 1) * 4) (c - (i + 1)) (fun _ => rfl)) (Below.refl _ _).drew) (by omega) HC.out.2.2.1
    rw [Nat.add_sub_cancel' hi] at hra
    have hY : ((((l.drop (i + 1)).take (m - i)).flatMap Step.cells) : List Value) = (l.drop (i + 1)).flatMap Step.cells := (by rw [List.take_of_length_le (by rw [List.length_drop, HN.out]; omega)])
    rw [hY] at hra
    have hYl : ((l.drop (i + 1)).flatMap Step.cells).length = (m - i) * 4 := by rw [flat_len step_len, List.length_drop, HN.out]; omega
    have hlist := del_list (L := cur.toList) (Y := (l.drop (i + 1)).flatMap Step.cells) (off := off) (m := m) (i := i) (by omega) (by have := HC.out.2.2.1; rw [Array.length_toList]; omega) hYl (off + i * 4 + ((l.drop (i + 1)).flatMap Step.cells).length)
    rw [← spl_list, HC.out.2.2.2, ← flat_take step_len, ← List.flatMap_append] at hlist
    have hsz := spl_size (cur := cur) (o := off + i * 4) (cs := (l.drop (i + 1)).flatMap Step.cells) (by have := HC.out.2.2.1; rw [hYl]; omega)
    generalize spl cur (off + i * 4) ((l.drop (i + 1)).flatMap Step.cells) = cur1 at *
    have HA := Lib.hid hra
    have HL := Lib.hid (And.intro hlist hsz)
    clear hra hY hYl hlist hsz hi0 hz
    go_wp2
    go_region_law (refine step_append_run _ (by rfl) _ _ _ _ (by rfl) (.slice (some ⟨g, off, none⟩) i c) (.slice (some ⟨g, off + (i + 1) * 4, none⟩) (m - i) (c - (i + 1))) (by go_simp <;> rfl) (by go_simp <;> rfl) (HA.out _) ?_)
    have hW1 : (w.drew.setRow g cur1).heap[g]? = some (.cells cur1 46 (0, 0)) := setRow_at (w := w.drew) HC.out.2.1
    have hF1 : Fr (fun j => j = g) w (w.drew.setRow g cur1) := fr_trans (fr_of_below (Below.refl _ _).drew) (fr_setRow _ _ _) fun _ _ h => h
    have hcl := fun ty => run_clear_k (P := Tryz.prog) (w.drew.setRow g cur1) 23 ty 46 _ Tryz.underlying23 zero_step (by simp [Value.cells, Value.oneCell']) g (off + m * 4) 1 (c - m) cur1 hW1 (by omega) (by have := HC.out.2.2.1; have := HL.out.2; simp [Value.cells]; omega)
    have HCL := Lib.hid (And.intro hcl (And.intro hW1 hF1))
    clear hcl hW1 hF1
    generalize w.drew.setRow g cur1 = W1 at *
    have m1 : (m : Int) ≤ (m : Int) + 1 := by omega
    have hclr := HCL.out.1
    obtain ⟨W2, hW2⟩ : ∃ W2, W1.setRow g (spl cur1 (off + m * 4) (Builtin.zeroCells (Value.agg #[.int .i64 0, .int .i64 0, .int .i64 0, .int .i64 0]).cells 1).toList) = W2 := ⟨_, rfl⟩
    rw [hW2] at hclr
    have HW2 := Lib.hid hW2
    clear hW2
    go_wp2
    go_ret
    rw [← HW2.out]
    refine ⟨_, rfl, ?_, fr_trans HCL.out.2.2 (fr_setRow _ _ _) fun _ _ h => h⟩
    have hsz2 := HL.out.2
    have hcs := HC.out.2.2.1
    have hwl : (withoutP l i).length = m := by rw [withoutP, List.length_append, List.length_take, List.length_drop, HN.out]; omega
    refine ⟨by rw [flat_len step_len], .inr ⟨g, off, c, _, by rw [hwl]; rfl, HC.out.1, setRow_at HCL.out.2.1, by omega, by unfold maxLen; omega, ?_, ?_⟩⟩
    · rw [spl_size (by simp [size_zeroCells, Value.cells]; omega)]
      omega
    · rw [spl_list, hwl, List.append_assoc, List.drop_append_of_le_length (by rw [List.length_take, Array.length_toList]; omega), List.drop_take, List.take_append_of_le_length (by rw [List.length_take, List.length_drop, Array.length_toList]; omega), show off + m * 4 - off = m * 4 by omega, List.take_take, Nat.min_self, HL.out.1]
      rfl

end Go.Proofs.YtkoeplbkeboklaaGreat
