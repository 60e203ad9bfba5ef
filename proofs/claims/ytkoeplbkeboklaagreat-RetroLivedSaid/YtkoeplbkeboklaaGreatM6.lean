/- My texts of layer 14, joined: R34, R19, R8b, K0. -/
import Derived.Test.YtkoeplbkeboklaaGreatM5
/- retro.Insert. -/
set_option linter.unusedVariables false
set_option linter.unusedSimpArgs false
namespace Go.Proofs.YtkoeplbkeboklaaGreat
open Go.RowKit
theorem kA {w : World} {j : Nat} {o o' : Obj} (h : w.heap[j]? = some o) : (w.alloc o').heap[j]? = some o := (Below.heap_alloc _ _ _ (Array.getElem?_eq_some_iff.1 h).1).trans h
theorem kN2 {w : World} {o o' : Obj} : ((w.alloc o).alloc o').heap[w.heap.size + 1]? = some o' := by
  have := heap_alloc_new (w.alloc o) o'
  rwa [World.size_alloc] at this
theorem kB {w w' : World} {j : Nat} {o : Obj} (hb : Below w.heap.size w w') (h : w.heap[j]? = some o) : w'.heap[j]? = some o := (hb.block _ (Array.getElem?_eq_some_iff.1 h).1).trans h
theorem kK {w w' : World} {B : Nat} (hb : Below B w w') (hB : B = w.heap.size) : ∀ (j : Nat) (o : Obj), w.heap[j]? = some o → w'.heap[j]? = some o := fun j o h => kB (hB ▸ hb) h
theorem kF {w w' : World} {S : Nat → Prop} {j : Nat} {o : Obj} (hf : Fr S w w') (h : w.heap[j]? = some o) (hn : ¬ S j) : w'.heap[j]? = some o := (hf.block _ (Array.getElem?_eq_some_iff.1 h).1 hn).trans h
theorem insSteps_w (a : Option Addr) (c vb : Nat) (S : Nat → Prop) (l : List Step) (s : Step) (i : Nat) (w : World) (hw : Win Step.cells 4 46 w (.slice a l.length c) S l) (hi : i ≤ l.length)
    (hv : w.heap[vb]? = some (.cells #[.int .i64 s.at_, .int .i64 s.do_, .int .i64 s.key, .int .i64 s.val] 46 (0, 0))) (hne : ¬ some vb = (Value.slice a l.length c).ownBlock) (hl : l.length < 100000) :
    Calls Tryz.prog 40 #[.slice a l.length c, .int .i64 i, .slice (some ⟨vb, 0, none⟩) 1 1] w fun e w' => ∃ v, e = .returned v ∧ Win Step.cells 4 46 w' v (fun j => some j = (Value.slice a l.length c).ownBlock ∨ w.heap.size ≤ j) (l.take i ++ s :: l.drop i) ∧ Fr (fun j => some j = (Value.slice a l.length c).ownBlock) w w' := by
  have hw2 := winC_mono (winC_block hw) (T := fun j => some j = (Value.slice a l.length c).ownBlock) fun i hi => hi.1
  by_cases he : i = l.length
  · subst he
    rw [List.take_length, List.drop_length]
    exact insEnd_any a c vb _ l s w hw2 hv hl
  · obtain ⟨g, off, rfl⟩ : ∃ g off, a = some ⟨g, off, none⟩ := by
      rcases hw.2 with ⟨h1, h2⟩ | ⟨g, off, cap, cur, hv, _⟩
      · omega
      · injection hv with h1; exact ⟨g, off, h1⟩
    refine (insMid_any g off c vb l.length i _ l s w hw2 rfl hv (fun e => hne (by rw [e]; rfl)) (by omega) hl).mono ?_
    rintro e w' ⟨v, rfl, h1, h2⟩
    exact ⟨v, rfl, h1, fr_mono h2 fun j hj => by rw [hj]; rfl⟩
set_option maxHeartbeats 20000000 in
theorem rInsert_any (k : Int) (v : Value) (l : List Step) (s : Step) (w : World) (hr : Rd Step.cells 4 w v l) :
    Calls Tryz.prog 25 #[.agg #[.int .i64 k, v], .agg #[.int .i64 s.at_, .int .i64 s.do_, .int .i64 s.key, .int .i64 s.val]] w fun e w' =>
      ∃ v' vs, e = .returned (.tuple #[.agg #[.int .i64 (insertP k l s).1.1, v'], vs, .int .i64 (insertP k l s).2.2]) ∧ Win Step.cells 4 46 w' v' (fun i => w.heap.size ≤ i) (insertP k l s).1.2 ∧ Win Span.cells 2 50 w' vs (fun i => w.heap.size ≤ i) (insertP k l s).2.1 ∧ Below w.heap.size w w' := by
  obtain ⟨a, c, rfl⟩ : ∃ a c, v = .slice a l.length c := by obtain ⟨_, a, c, rfl, _⟩ := hr; exact ⟨a, c, rfl⟩
  have HR := Lib.hid hr
  have HC := Lib.hid (fun W h => isLine_any k _ l W (hr.below h))
  clear hr
  cases hl : isLineP k l with
  | false =>
    have hat : insertP k l s = ((0, []), [], 2) := by simp [insertP, hl]
    rw [hat]
    rw [hl] at HC
    clear hat hl
    go_enter Tryz.func25, Tryz.ntmps25
    go_wp2_with fail
    refine named_box3 (G := fun W => Calls _ _ _ W _) w _ _ _ _ _ _ fun W0 hb0 hz0 hx0 hx1 hx2 => ?_
    refine (HC.out _ hb0).mono ?_
    rintro e w1 ⟨rfl, hb1⟩
    have hB := hb0.trans (hb1.mono (by omega))
    have hr2 := (hb1.block _ (by omega)).trans hx2
    have f0 := cell_blk hr2 0
    have f1 := cell_blk hr2 1
    have k0 := free_blk hr2 0
    have k1 := free_blk hr2 1
    have hE := line_end (k := 0) hB.size hB hr2 (by omega) (win_nil Step.cells 4 46 w1 (fun i => i ≠ w.heap.size + 1 + 1 ∧ w.heap.size ≤ i)) (fun i hi => hi)
    have HE := Lib.hid (hE _ rfl)
    clear hE hB hr2
    go_wp2
    have g0 := HE.out.1
    have g1 := HE.out.2.1
    exact bodyPost_ret (v := .tuple #[.agg #[.int .i64 0, .slice none 0 0], .slice none 0 0, .int .i64 2]) (by simp [results, Tryz.results25, go_sem, g0, g1]) rfl ⟨_, _, rfl, winC_nil _ _ _ _, winC_nil _ _ _ _, HE.out.2.2.2⟩

  | true =>
    rw [hl] at HC
    have hlen := line_len hl
    have HL := Lib.hid hl
    have HS := Lib.hid (fun W => isStep_any k s W)
    have HH := Lib.hid (fun W h => rplace_any k _ l s.at_ W (HR.out.below h) (isLineP_spec hl).2.2.2.2 (by omega))
    clear hl
    cases hs : isStepP k s with
    | false =>
      have hat : insertP k l s = ((0, []), [], 2) := by simp [insertP, hs]
      rw [hat]
      rw [hs] at HS
      clear hat hs
      go_enter Tryz.func25, Tryz.ntmps25
      go_wp2_with fail
      refine named_box3 (G := fun W => Calls _ _ _ W _) w _ _ _ _ _ _ fun W0 hb0 hz0 hx0 hx1 hx2 => ?_
      refine (HC.out _ hb0).mono ?_
      rintro e w1 ⟨rfl, hb1⟩
      have hB1 := hb0.trans (hb1.mono (by omega))
      have hz1 := hb1.size
      have d0 : w1.cell? ⟨w.heap.size, 0, none⟩ = some (.int .i64 k) := below_cell hb1 (cell_blk hx0 0)
      have d1 : w1.cell? ⟨w.heap.size, 1, none⟩ = some (.slice a l.length c) := below_cell hb1 (cell_blk hx0 1)
      have e0 : w1.cell? ⟨w.heap.size + 1, 0, none⟩ = some (.int .i64 s.at_) := below_cell hb1 (cell_blk hx1 0)
      have e1 : w1.cell? ⟨w.heap.size + 1, 1, none⟩ = some (.int .i64 s.do_) := below_cell hb1 (cell_blk hx1 1)
      have e2 : w1.cell? ⟨w.heap.size + 1, 2, none⟩ = some (.int .i64 s.key) := below_cell hb1 (cell_blk hx1 2)
      have e3 : w1.cell? ⟨w.heap.size + 1, 3, none⟩ = some (.int .i64 s.val) := below_cell hb1 (cell_blk hx1 3)
      have HB1 := Lib.hid (And.intro hB1 (And.intro ((hb1.block _ (by omega)).trans hx2) hz1))
      clear hB1 hx0 hx1 hx2 hb0 hb1

      go_wp2_with fail
      refine (HS.out _).mono ?_
      rintro e w2 ⟨rfl, hb2⟩
      have hB := HB1.out.1.trans (hb2.mono HB1.out.1.size)
      have hr2 := (hb2.block _ (by omega)).trans HB1.out.2.1
      have f0 := cell_blk hr2 0
      have f1 := cell_blk hr2 1
      have k0 := free_blk hr2 0
      have k1 := free_blk hr2 1
      have hE := line_end (k := 0) hB.size hB hr2 (by omega) (win_nil Step.cells 4 46 w2 (fun i => i ≠ w.heap.size + 1 + 1 ∧ w.heap.size ≤ i)) (fun i hi => hi)
      have HE := Lib.hid (hE _ rfl)
      clear hE hB hr2
      go_wp2
      have g0 := HE.out.1
      have g1 := HE.out.2.1
      exact bodyPost_ret (v := .tuple #[.agg #[.int .i64 0, .slice none 0 0], .slice none 0 0, .int .i64 2]) (by simp [results, Tryz.results25, go_sem, g0, g1]) rfl ⟨_, _, rfl, winC_nil _ _ _ _, winC_nil _ _ _ _, HE.out.2.2.2⟩

    | true =>
      rw [hs] at HS
      have HSS := Lib.hid hs
      clear hs
      cases hh : hasP l s.at_ with
      | true =>
        have hat : insertP k l s = ((0, []), [], 7) := by simp [insertP, HL.out, HSS.out, hh]
        rw [hat]
        rw [hh] at HH
        clear hat hh
        go_enter Tryz.func25, Tryz.ntmps25
        go_wp2_with fail
        refine named_box3 (G := fun W => Calls _ _ _ W _) w _ _ _ _ _ _ fun W0 hb0 hz0 hx0 hx1 hx2 => ?_
        refine (HC.out _ hb0).mono ?_
        rintro e w1 ⟨rfl, hb1⟩
        have hB1 := hb0.trans (hb1.mono (by omega))
        have hz1 := hb1.size
        have d0 : w1.cell? ⟨w.heap.size, 0, none⟩ = some (.int .i64 k) := below_cell hb1 (cell_blk hx0 0)
        have d1 : w1.cell? ⟨w.heap.size, 1, none⟩ = some (.slice a l.length c) := below_cell hb1 (cell_blk hx0 1)
        have e0 : w1.cell? ⟨w.heap.size + 1, 0, none⟩ = some (.int .i64 s.at_) := below_cell hb1 (cell_blk hx1 0)
        have e1 : w1.cell? ⟨w.heap.size + 1, 1, none⟩ = some (.int .i64 s.do_) := below_cell hb1 (cell_blk hx1 1)
        have e2 : w1.cell? ⟨w.heap.size + 1, 2, none⟩ = some (.int .i64 s.key) := below_cell hb1 (cell_blk hx1 2)
        have e3 : w1.cell? ⟨w.heap.size + 1, 3, none⟩ = some (.int .i64 s.val) := below_cell hb1 (cell_blk hx1 3)
        have HB1 := Lib.hid (And.intro hB1 (And.intro ((hb1.block _ (by omega)).trans hx2) hz1))
        clear hB1 hx0 hx1 hx2 hb0 hb1

        go_wp2_with fail
        refine (HS.out _).mono ?_
        rintro e w2 ⟨rfl, hb2⟩
        have hB2 := HB1.out.1.trans (hb2.mono HB1.out.1.size)
        have p0 := below_cell hb2 d0
        have p1 := below_cell hb2 d1
        have p2 := below_cell hb2 e0
        have p3 := below_cell hb2 e1
        have p4 := below_cell hb2 e2
        have p5 := below_cell hb2 e3
        have hz2 := hb2.size
        have HB2 := Lib.hid (And.intro hB2 ((hb2.block _ (by omega)).trans HB1.out.2.1))
        clear hb2 hB2 d0 d1 e0 e1 e2 e3
        go_wp2_with fail
        refine (HH.out _ HB2.out.1).mono ?_
        rintro e w3 ⟨rfl, hb3⟩
        have hB3 := HB2.out.1.trans (hb3.mono HB2.out.1.size)
        have d0 := below_cell hb3 p0
        have d1 := below_cell hb3 p1
        have e0 := below_cell hb3 p2
        have e1 := below_cell hb3 p3
        have e2 := below_cell hb3 p4
        have e3 := below_cell hb3 p5
        have hz3 := hb3.size
        have HB3 := Lib.hid (And.intro hB3 (And.intro ((hb3.block _ (by omega)).trans HB2.out.2) trivial))
        clear hb3 hB3 p0 p1 p2 p3 p4 p5

        have hB := HB3.out.1
        have hr2 := HB3.out.2.1
        have f0 := cell_blk hr2 0
        have f1 := cell_blk hr2 1
        have k0 := free_blk hr2 0
        have k1 := free_blk hr2 1
        have hE := line_end (k := 0) hB.size hB hr2 (by omega) (win_nil Step.cells 4 46 w3 (fun i => i ≠ w.heap.size + 1 + 1 ∧ w.heap.size ≤ i)) (fun i hi => hi)
        have HE := Lib.hid (hE _ rfl)
        clear hE hB hr2
        go_wp2
        have g0 := HE.out.1
        have g1 := HE.out.2.1
        exact bodyPost_ret (v := .tuple #[.agg #[.int .i64 0, .slice none 0 0], .slice none 0 0, .int .i64 7]) (by simp [results, Tryz.results25, go_sem, g0, g1]) rfl ⟨_, _, rfl, winC_nil _ _ _ _, winC_nil _ _ _ _, HE.out.2.2.2⟩

      | false =>
        rw [hh] at HH
        by_cases h60 : l.length = 60
        · have hat : insertP k l s = ((0, []), [], 3) := by simp [insertP, HL.out, HSS.out, hh, h60]
          rw [hat]
          have h60c : (l.length : Int) = 60 := by omega
          have h60d : ((l.length : Int) == 60) = true := by simp; omega
          have H60 := Lib.hid (And.intro h60c h60)
          clear hat hh h60 h60c
          go_enter Tryz.func25, Tryz.ntmps25
          go_wp2_with fail
          refine named_box3 (G := fun W => Calls _ _ _ W _) w _ _ _ _ _ _ fun W0 hb0 hz0 hx0 hx1 hx2 => ?_
          refine (HC.out _ hb0).mono ?_
          rintro e w1 ⟨rfl, hb1⟩
          have hB1 := hb0.trans (hb1.mono (by omega))
          have hz1 := hb1.size
          have d0 : w1.cell? ⟨w.heap.size, 0, none⟩ = some (.int .i64 k) := below_cell hb1 (cell_blk hx0 0)
          have d1 : w1.cell? ⟨w.heap.size, 1, none⟩ = some (.slice a l.length c) := below_cell hb1 (cell_blk hx0 1)
          have e0 : w1.cell? ⟨w.heap.size + 1, 0, none⟩ = some (.int .i64 s.at_) := below_cell hb1 (cell_blk hx1 0)
          have e1 : w1.cell? ⟨w.heap.size + 1, 1, none⟩ = some (.int .i64 s.do_) := below_cell hb1 (cell_blk hx1 1)
          have e2 : w1.cell? ⟨w.heap.size + 1, 2, none⟩ = some (.int .i64 s.key) := below_cell hb1 (cell_blk hx1 2)
          have e3 : w1.cell? ⟨w.heap.size + 1, 3, none⟩ = some (.int .i64 s.val) := below_cell hb1 (cell_blk hx1 3)
          have HB1 := Lib.hid (And.intro hB1 (And.intro ((hb1.block _ (by omega)).trans hx2) hz1))
          clear hB1 hx0 hx1 hx2 hb0 hb1

          go_wp2_with fail
          refine (HS.out _).mono ?_
          rintro e w2 ⟨rfl, hb2⟩
          have hB2 := HB1.out.1.trans (hb2.mono HB1.out.1.size)
          have p0 := below_cell hb2 d0
          have p1 := below_cell hb2 d1
          have p2 := below_cell hb2 e0
          have p3 := below_cell hb2 e1
          have p4 := below_cell hb2 e2
          have p5 := below_cell hb2 e3
          have hz2 := hb2.size
          have HB2 := Lib.hid (And.intro hB2 ((hb2.block _ (by omega)).trans HB1.out.2.1))
          clear hb2 hB2 d0 d1 e0 e1 e2 e3
          go_wp2_with fail
          refine (HH.out _ HB2.out.1).mono ?_
          rintro e w3 ⟨rfl, hb3⟩
          have hB3 := HB2.out.1.trans (hb3.mono HB2.out.1.size)
          have d0 := below_cell hb3 p0
          have d1 := below_cell hb3 p1
          have e0 := below_cell hb3 p2
          have e1 := below_cell hb3 p3
          have e2 := below_cell hb3 p4
          have e3 := below_cell hb3 p5
          have hz3 := hb3.size
          have HB3 := Lib.hid (And.intro hB3 (And.intro ((hb3.block _ (by omega)).trans HB2.out.2) trivial))
          clear hb3 hB3 p0 p1 p2 p3 p4 p5

          have hB := HB3.out.1
          have hr2 := HB3.out.2.1
          have f0 := cell_blk hr2 0
          have f1 := cell_blk hr2 1
          have k0 := free_blk hr2 0
          have k1 := free_blk hr2 1
          have hE := line_end (k := 0) hB.size hB hr2 (by omega) (win_nil Step.cells 4 46 w3 (fun i => i ≠ w.heap.size + 1 + 1 ∧ w.heap.size ≤ i)) (fun i hi => hi)
          have HE := Lib.hid (hE _ rfl)
          clear hE hB hr2
          go_wp2
          have g0 := HE.out.1
          have g1 := HE.out.2.1
          exact bodyPost_ret (v := .tuple #[.agg #[.int .i64 0, .slice none 0 0], .slice none 0 0, .int .i64 3]) (by simp [results, Tryz.results25, go_sem, g0, g1]) rfl ⟨_, _, rfl, winC_nil _ _ _ _, winC_nil _ _ _ _, HE.out.2.2.2⟩

        · have hat : insertP k l s = ((k, withP l s), diffOf k l (withP l s), 0) := by simp [insertP, HL.out, HSS.out, hh, h60]
          rw [hat]
          have hlw := isLineP_with HL.out HSS.out hh (by omega)
          have HW := Lib.hid (And.intro hlw (with_length l s))
          have HIN := Lib.hid (fun a c S W vb h hv hne => insSteps_w a c vb S l s (placeAt s.at_ l) W h (placeAt_le s.at_ l) hv hne (by omega))
          have hql := placeAt_le s.at_ l
          have hww : l.take (placeAt s.at_ l) ++ s :: l.drop (placeAt s.at_ l) = withP l s := rfl
          rw [hww] at HIN
          clear hat hh hlw hww
          generalize hwl : withP l s = lw at *
          have hll : lw.length ≤ 61 := by have := HW.out.2; omega
          generalize placeAt s.at_ l = q at *
          have EF := Lib.hid (enters_of Tryz.func41 (by kernel_rfl) rfl)
          have EX := Lib.hid (enters_of Tryz.func40 (by kernel_rfl) rfl)
          have h60c : ¬ ((l.length : Int) = 60) := by omega
          have h60d : ((l.length : Int) == 60) = false := by simp; omega
          go_enter Tryz.func25, Tryz.ntmps25
          go_wp2_with fail
          refine named_box3 (G := fun W => Calls _ _ _ W _) w _ _ _ _ _ _ fun W0 hb0 hz0 hx0 hx1 hx2 => ?_
          refine (HC.out _ hb0).mono ?_
          rintro e w1 ⟨rfl, hb1⟩
          have hB1 := hb0.trans (hb1.mono (by omega))
          have hz1 := hb1.size
          have d0 : w1.cell? ⟨w.heap.size, 0, none⟩ = some (.int .i64 k) := below_cell hb1 (cell_blk hx0 0)
          have d1 : w1.cell? ⟨w.heap.size, 1, none⟩ = some (.slice a l.length c) := below_cell hb1 (cell_blk hx0 1)
          have e0 : w1.cell? ⟨w.heap.size + 1, 0, none⟩ = some (.int .i64 s.at_) := below_cell hb1 (cell_blk hx1 0)
          have e1 : w1.cell? ⟨w.heap.size + 1, 1, none⟩ = some (.int .i64 s.do_) := below_cell hb1 (cell_blk hx1 1)
          have e2 : w1.cell? ⟨w.heap.size + 1, 2, none⟩ = some (.int .i64 s.key) := below_cell hb1 (cell_blk hx1 2)
          have e3 : w1.cell? ⟨w.heap.size + 1, 3, none⟩ = some (.int .i64 s.val) := below_cell hb1 (cell_blk hx1 3)
          have HB1 := Lib.hid (And.intro hB1 (And.intro ((hb1.block _ (by omega)).trans hx2) hz1))
          clear hB1 hx0 hx1 hx2 hb0 hb1

          go_wp2_with fail
          refine (HS.out _).mono ?_
          rintro e w2 ⟨rfl, hb2⟩
          have hB2 := HB1.out.1.trans (hb2.mono HB1.out.1.size)
          have p0 := below_cell hb2 d0
          have p1 := below_cell hb2 d1
          have p2 := below_cell hb2 e0
          have p3 := below_cell hb2 e1
          have p4 := below_cell hb2 e2
          have p5 := below_cell hb2 e3
          have hz2 := hb2.size
          have HB2 := Lib.hid (And.intro hB2 ((hb2.block _ (by omega)).trans HB1.out.2.1))
          clear hb2 hB2 d0 d1 e0 e1 e2 e3
          go_wp2_with fail
          refine (HH.out _ HB2.out.1).mono ?_
          rintro e w3 ⟨rfl, hb3⟩
          have hB3 := HB2.out.1.trans (hb3.mono HB2.out.1.size)
          have d0 := below_cell hb3 p0
          have d1 := below_cell hb3 p1
          have e0 := below_cell hb3 p2
          have e1 := below_cell hb3 p3
          have e2 := below_cell hb3 p4
          have e3 := below_cell hb3 p5
          have hz3 := hb3.size
          have HB3 := Lib.hid (And.intro hB3 (And.intro ((hb3.block _ (by omega)).trans HB2.out.2) trivial))
          clear hb3 hB3 p0 p1 p2 p3 p4 p5

          have hzz : w.heap.size + 1 + 1 < w3.heap.size := by omega
          go_wp2
          set_option maxRecDepth 10000 in
          go_region_held3 (fun W => W.cell? ⟨w.heap.size, 0, none⟩ = some (.int .i64 k) ∧ W.cell? ⟨w.heap.size, 1, none⟩ = some (.slice a l.length c) ∧ W.cell? ⟨w.heap.size + 1, 0, none⟩ = some (.int .i64 s.at_) ∧ W.cell? ⟨w.heap.size + 1, 1, none⟩ = some (.int .i64 s.do_) ∧ W.cell? ⟨w.heap.size + 1, 2, none⟩ = some (.int .i64 s.key) ∧ W.cell? ⟨w.heap.size + 1, 3, none⟩ = some (.int .i64 s.val)) (first | exact ⟨d0, d1, e0, e1, e2, e3⟩ | exact ⟨p0, p1, p2, p3, p4, p5⟩ | exact ⟨r0, r1, r2, r3, r4, r5⟩ | exact ⟨fr_cell (stored2 w4 (w5.heap.size + 1) _ _) r0 (fun h => by have h2 : w.heap.size = w5.heap.size + 1 := h; omega), fr_cell (stored2 w4 (w5.heap.size + 1) _ _) r1 (fun h => by have h2 : w.heap.size = w5.heap.size + 1 := h; omega), fr_cell (stored2 w4 (w5.heap.size + 1) _ _) r2 (fun h => by have h2 : w.heap.size + 1 = w5.heap.size + 1 := h; omega), fr_cell (stored2 w4 (w5.heap.size + 1) _ _) r3 (fun h => by have h2 : w.heap.size + 1 = w5.heap.size + 1 := h; omega), fr_cell (stored2 w4 (w5.heap.size + 1) _ _) r4 (fun h => by have h2 : w.heap.size + 1 = w5.heap.size + 1 := h; omega), fr_cell (stored2 w4 (w5.heap.size + 1) _ _) r5 (fun h => by have h2 : w.heap.size + 1 = w5.heap.size + 1 := h; omega)⟩ | exact ⟨fr_cell (stored2 w4 (w5.heap.size) _ _) r0 (fun h => by have h2 : w.heap.size = w5.heap.size := h; omega), fr_cell (stored2 w4 (w5.heap.size) _ _) r1 (fun h => by have h2 : w.heap.size = w5.heap.size := h; omega), fr_cell (stored2 w4 (w5.heap.size) _ _) r2 (fun h => by have h2 : w.heap.size + 1 = w5.heap.size := h; omega), fr_cell (stored2 w4 (w5.heap.size) _ _) r3 (fun h => by have h2 : w.heap.size + 1 = w5.heap.size := h; omega), fr_cell (stored2 w4 (w5.heap.size) _ _) r4 (fun h => by have h2 : w.heap.size + 1 = w5.heap.size := h; omega), fr_cell (stored2 w4 (w5.heap.size) _ _) r5 (fun h => by have h2 : w.heap.size + 1 = w5.heap.size := h; omega)⟩ | exact ⟨fr_cell (stored2 w4 (w3.heap.size) _ _) r0 (fun h => by have h2 : w.heap.size = w3.heap.size := h; omega), fr_cell (stored2 w4 (w3.heap.size) _ _) r1 (fun h => by have h2 : w.heap.size = w3.heap.size := h; omega), fr_cell (stored2 w4 (w3.heap.size) _ _) r2 (fun h => by have h2 : w.heap.size + 1 = w3.heap.size := h; omega), fr_cell (stored2 w4 (w3.heap.size) _ _) r3 (fun h => by have h2 : w.heap.size + 1 = w3.heap.size := h; omega), fr_cell (stored2 w4 (w3.heap.size) _ _) r4 (fun h => by have h2 : w.heap.size + 1 = w3.heap.size := h; omega), fr_cell (stored2 w4 (w3.heap.size) _ _) r5 (fun h => by have h2 : w.heap.size + 1 = w3.heap.size := h; omega)⟩ | exact ⟨fr_cell (stored2 w4 (w3.heap.size + 1) _ _) r0 (fun h => by have h2 : w.heap.size = w3.heap.size + 1 := h; omega), fr_cell (stored2 w4 (w3.heap.size + 1) _ _) r1 (fun h => by have h2 : w.heap.size = w3.heap.size + 1 := h; omega), fr_cell (stored2 w4 (w3.heap.size + 1) _ _) r2 (fun h => by have h2 : w.heap.size + 1 = w3.heap.size + 1 := h; omega), fr_cell (stored2 w4 (w3.heap.size + 1) _ _) r3 (fun h => by have h2 : w.heap.size + 1 = w3.heap.size + 1 := h; omega), fr_cell (stored2 w4 (w3.heap.size + 1) _ _) r4 (fun h => by have h2 : w.heap.size + 1 = w3.heap.size + 1 := h; omega), fr_cell (stored2 w4 (w3.heap.size + 1) _ _) r5 (fun h => by have h2 : w.heap.size + 1 = w3.heap.size + 1 := h; omega)⟩ | go_keep) ((first | (refine step_call (by rfl) 40 _ _ (by rfl) (EX.out) _ (by rfl) (HIN.out _ _ _ _ _ (by first | with_reducible exact hw5 | exact winC_move hw5 (fr_alloc (fun _ => False) w5 _) (fun _ _ h => h) | exact winC_move (winC_move hw5 (fr_alloc (fun _ => False) w5 _) (fun _ _ h => h)) (fr_alloc (fun _ => False) (w5.alloc _) _) (fun _ _ h => h)) (by first | with_reducible exact heap_alloc_new _ _ | with_reducible exact kA (heap_alloc_new _ _) | with_reducible exact kN2 | (refine hkeep _ _ ?_; first | with_reducible exact heap_alloc_new _ _ | with_reducible exact kA (heap_alloc_new _ _) | with_reducible exact kN2) | (refine kA (hkeep _ _ ?_); first | with_reducible exact heap_alloc_new _ _ | with_reducible exact kA (heap_alloc_new _ _) | with_reducible exact kN2)) (fun h => by have := hob _ h; first | omega | (simp at this; done) | (simp at this; omega))) ?_; rintro _ w4 ⟨v4, rfl, hw4, hf4⟩; obtain ⟨a4, c4, rfl, _, _⟩ := winC_slice hw4; refine ⟨_, rfl, ?_⟩; have hoz : ∀ i, some i = (Value.slice af l.length cf).ownBlock → w3.heap.size ≤ i ∧ i < w5.heap.size := fun i hi => (by have := hob i hi; omega); have hb34 : Below w3.heap.size w3 w4 := (by first | exact hb35.trans (below_of_fr hf4 hb35.size fun i hi => (hoz i hi).1) | exact (hb35.alloc hb35.size _).trans (below_of_fr hf4 (by simp; omega) fun i hi => (hoz i hi).1) | exact ((hb35.alloc hb35.size _).alloc (by simp; omega) _).trans (below_of_fr hf4 (by simp; omega) fun i hi => (hoz i hi).1)); have hs4 := hf4.size; (try simp only [World.size_alloc] at hs4); have r0 := below_cell hb34 d0; have r1 := below_cell hb34 d1; have r2 := below_cell hb34 e0; have r3 := below_cell hb34 e1; have r4 := below_cell hb34 e2; have r5 := below_cell hb34 e3) | (refine step_call (by rfl) 41 _ _ (by rfl) (EF.out) _ (by rfl) (fresh_any _ l _ (HR.out.below (by first | exact HB3.out.1.drew | exact (HB3.out.1.alloc HB3.out.1.size _).drew | exact ((HB3.out.1.alloc HB3.out.1.size _).alloc (Nat.le_trans HB3.out.1.size (by simp)) _).drew)) (by omega)) ?_; rintro _ w5 ⟨v5, rfl, hw5, hb5⟩; obtain ⟨af, cf, rfl, _, _⟩ := winC_slice hw5; refine ⟨_, rfl, ?_⟩; have hbw := (Below.refl _ _).drew.trans hb5; have hb35 : Below w3.heap.size w3 w5 := (by first | exact hbw | exact ((Below.refl _ _).alloc (Nat.le_refl _) _).trans (hbw.mono (by simp)) | exact (((Below.refl _ _).alloc (Nat.le_refl _) _).alloc (by simp) _).trans (hbw.mono (by simp; omega))); have hob := winC_ob hw5; have hs5 := hb35.size; have hsx := hbw.size; have p0 := below_cell hb35 d0; have p1 := below_cell hb35 d1; have p2 := below_cell hb35 e0; have p3 := below_cell hb35 e1; have p4 := below_cell hb35 e2; have p5 := below_cell hb35 e3; simp only [drew_size, World.size_alloc] at hsx hob; have hkeep := kK hbw rfl; clear hbw hb5) | (have yr : w4.heap[w5.heap.size]? = some (.cells #[.int .i64 0, .slice none 0 0] 25) := kF hf4 (by first | with_reducible exact heap_alloc_new _ _ | with_reducible exact kA (heap_alloc_new _ _) | with_reducible exact kN2 | (refine hkeep _ _ ?_; first | with_reducible exact heap_alloc_new _ _ | with_reducible exact kA (heap_alloc_new _ _) | with_reducible exact kN2) | (refine kA (hkeep _ _ ?_); first | with_reducible exact heap_alloc_new _ _ | with_reducible exact kA (heap_alloc_new _ _) | with_reducible exact kN2)) (fun h => by have := hob _ h; omega); have y0 := cell_blk yr 0; have y1 := cell_blk yr 1; have k0 := free_blk yr 0; have k1 := free_blk yr 1; clear hoz; go_simp) | (have yr : w4.heap[w5.heap.size + 1]? = some (.cells #[.int .i64 0, .slice none 0 0] 25) := kF hf4 (by first | with_reducible exact heap_alloc_new _ _ | with_reducible exact kA (heap_alloc_new _ _) | with_reducible exact kN2 | (refine hkeep _ _ ?_; first | with_reducible exact heap_alloc_new _ _ | with_reducible exact kA (heap_alloc_new _ _) | with_reducible exact kN2) | (refine kA (hkeep _ _ ?_); first | with_reducible exact heap_alloc_new _ _ | with_reducible exact kA (heap_alloc_new _ _) | with_reducible exact kN2)) (fun h => by have := hob _ h; omega); have y0 := cell_blk yr 0; have y1 := cell_blk yr 1; have k0 := free_blk yr 0; have k1 := free_blk yr 1; clear hoz; go_simp) | (have yr : w4.heap[w3.heap.size]? = some (.cells #[.int .i64 0, .slice none 0 0] 25) := kF hf4 (by first | with_reducible exact heap_alloc_new _ _ | with_reducible exact kA (heap_alloc_new _ _) | with_reducible exact kN2 | (refine hkeep _ _ ?_; first | with_reducible exact heap_alloc_new _ _ | with_reducible exact kA (heap_alloc_new _ _) | with_reducible exact kN2) | (refine kA (hkeep _ _ ?_); first | with_reducible exact heap_alloc_new _ _ | with_reducible exact kA (heap_alloc_new _ _) | with_reducible exact kN2)) (fun h => by have := hob _ h; omega); have y0 := cell_blk yr 0; have y1 := cell_blk yr 1; have k0 := free_blk yr 0; have k1 := free_blk yr 1; clear hoz; go_simp) | (have yr : w4.heap[w3.heap.size + 1]? = some (.cells #[.int .i64 0, .slice none 0 0] 25) := kF hf4 (by first | with_reducible exact heap_alloc_new _ _ | with_reducible exact kA (heap_alloc_new _ _) | with_reducible exact kN2 | (refine hkeep _ _ ?_; first | with_reducible exact heap_alloc_new _ _ | with_reducible exact kA (heap_alloc_new _ _) | with_reducible exact kN2) | (refine kA (hkeep _ _ ?_); first | with_reducible exact heap_alloc_new _ _ | with_reducible exact kA (heap_alloc_new _ _) | with_reducible exact kN2)) (fun h => by have := hob _ h; omega); have y0 := cell_blk yr 0; have y1 := cell_blk yr 1; have k0 := free_blk yr 0; have k1 := free_blk yr 1; clear hoz; go_simp) | fail))
          · refine named_box w4 _ _ fun W5 hbx hzx hx5 => ?_
            have u0 : W5.cell? ⟨w4.heap.size, 0, none⟩ = some (.int .i64 k) := hx5 0
            have u1 : W5.cell? ⟨w4.heap.size, 1, none⟩ = some (.slice a4 lw.length c4) := hx5 1
            have hF5 : Fr (fun i => i = w4.heap.size) w4 W5 := fr_of_below hbx
            clear hx5 hbx
            clear r2 r3 r4 r5 e0 e1 e2 e3 p2 p3 p4 p5 hkeep
            have hw4' : Win Step.cells 4 46 w4 (.slice a4 lw.length c4) (fun i => w3.heap.size ≤ i ∧ i < w4.heap.size ∧ ¬ i = w4.heap.size) lw := winC_mono (winC_block hw4) fun i hi => by
              have h2 := hi.2.2
              rcases hi.2.1 with h | h
              · have := hob i h; omega
              · (try simp only [World.size_alloc] at h); omega
            have hBz := HB3.out.1.size
            have hB4 : Below w.heap.size w w4 := HB3.out.1.trans (hb34.mono hBz)
            have hs34 := hb34.size
            have hB6' : Below w.heap.size w W5 := hB4.trans (below_of_fr hF5 hB4.size fun i hi => by have h2 : i = w4.heap.size := hi; omega)
            have hr5 := (hF5.block (w.heap.size + 1 + 1) (by omega) (fun h => by have h2 : w.heap.size + 1 + 1 = w4.heap.size := h; omega)).trans ((hb34.block (w.heap.size + 1 + 1) (by omega)).trans HB3.out.2.1)
            have z0 := fr_cell hF5 r0 (fun h => by have h2 : w.heap.size = w4.heap.size := h; omega)
            have z1 := fr_cell hF5 r1 (fun h => by have h2 : w.heap.size = w4.heap.size := h; omega)
            have f0 := cell_blk hr5 0
            have f1 := cell_blk hr5 1
            have k0 := free_blk hr5 0
            have k1 := free_blk hr5 1
            have hw5' : Win Step.cells 4 46 W5 (.slice a4 lw.length c4) (fun i => i ≠ w.heap.size + 1 + 1 ∧ w.heap.size ≤ i) lw := winC_mono (winC_move hw4' hF5 (fun i hi h => hi.2.2 h)) fun i hi => ⟨by omega, by omega⟩
            have hDC := spans_any k _ _ l lw W5.drew ((HR.out.below hB6').below (Below.refl _ _).drew) ((win_rd step_len hw5').below (Below.refl _ _).drew) (by omega) (by omega) (lines_time HL.out HW.out.1)
            have H5 := Lib.hid (And.intro hB6' (And.intro hr5 (And.intro hw5' hDC)))
            clear hb34 hB6' hr5 hw4 hw4' hw5' hDC d0 d1 p0 p1 r0 r1 hF5 hB4 hw5 hb35 hf4 hob
            try clear hoz
            try clear hsx
            have hX : w.heap.size + 1 + 1 < w4.heap.size := by omega
            generalize w4.heap.size = X at *
            go_wp2

            have ED := Lib.hid (enters_of Tryz.func42 (by kernel_rfl) rfl)
            set_option maxRecDepth 10000 in
            go_region_held3 (fun W => W.cell? ⟨X, 0, none⟩ = some (.int .i64 k) ∧ W.cell? ⟨X, 1, none⟩ = some (.slice a4 lw.length c4) ∧ W.cell? ⟨w.heap.size, 0, none⟩ = some (.int .i64 k) ∧ W.cell? ⟨w.heap.size, 1, none⟩ = some (.slice a l.length c)) (first | exact ⟨u0, u1, z0, z1⟩ | exact ⟨p0, p1, p2, p3⟩ | exact ⟨fr_cell (stored2 w6 (w.heap.size + 1 + 1) _ _) p0 (fun h => by have h2 : X = w.heap.size + 1 + 1 := h; omega), fr_cell (stored2 w6 (w.heap.size + 1 + 1) _ _) p1 (fun h => by have h2 : X = w.heap.size + 1 + 1 := h; omega), fr_cell (stored2 w6 (w.heap.size + 1 + 1) _ _) p2 (fun h => by have h2 : w.heap.size = w.heap.size + 1 + 1 := h; omega), fr_cell (stored2 w6 (w.heap.size + 1 + 1) _ _) p3 (fun h => by have h2 : w.heap.size = w.heap.size + 1 + 1 := h; omega)⟩ | go_keep) ((first | (refine step_call (by rfl) 42 _ _ (by rfl) (ED.out) _ (by rfl) H5.out.2.2.2 ?_; rintro _ w6 ⟨v6, rfl, hw6, hb6⟩; obtain ⟨a6, c6, rfl, _, _⟩ := winC_slice hw6; refine ⟨_, rfl, ?_⟩; have hb6' := (Below.refl W5.heap.size W5).drew.trans hb6; have p0 := below_cell hb6' u0; have p1 := below_cell hb6' u1; have p2 := below_cell hb6' z0; have p3 := below_cell hb6' z1; have q0 := below_cell hb6' f0; have q1 := below_cell hb6' f1; have k2 := below_frozen hb6' (a := ⟨w.heap.size + 1 + 1, 0, none⟩) (by show w.heap.size + 1 + 1 < _; omega) k0; have k3 := below_frozen hb6' (a := ⟨w.heap.size + 1 + 1, 1, none⟩) (by show w.heap.size + 1 + 1 < _; omega) k1) | fail))
            all_goals
              have hB6 := H5.out.1.trans (hb6'.mono H5.out.1.size)
              have hr6 := (hb6'.block _ (by omega)).trans H5.out.2.1
              have hw6l : Win Step.cells 4 46 w6 (.slice a4 lw.length c4) (fun i => i ≠ w.heap.size + 1 + 1 ∧ w.heap.size ≤ i) lw := winC_move H5.out.2.2.1 (fr_of_below (S := fun _ => False) hb6') (fun _ _ h => h)
              have hE := line_end (k := k) hB6.size hB6 hr6 (by omega) hw6l (fun i hi => hi)
              have HE := Lib.hid (hE _ rfl)
              have hsp : Win Span.cells 2 50 ((w6.setCell ⟨w.heap.size + 1 + 1, 0, none⟩ (.int .i64 k)).setCell ⟨w.heap.size + 1 + 1, 1, none⟩ (.slice a4 lw.length c4)) (.slice a6 (diffOf k l lw).length c6) (fun i => w.heap.size ≤ i) (diffOf k l lw) := winC_mono (winC_move hw6 (stored2 w6 (w.heap.size + 1 + 1) _ _) (fun i hi h => by have h2 : i = w.heap.size + 1 + 1 := h; simp [drew_size] at hi; omega)) fun i hi => by have := H5.out.1.size; simp [drew_size] at hi; omega
              have HSP := Lib.hid hsp
              clear hE hB6 hr6 hw6l hsp p0 p1 p2 p3 q0 q1 k2 k3 hw6 hb6 hb6' u0 u1 z0 z1 f0 f1 k0 k1
              generalize (w6.setCell ⟨w.heap.size + 1 + 1, 0, none⟩ (.int .i64 k)).setCell ⟨w.heap.size + 1 + 1, 1, none⟩ (.slice a4 lw.length c4) = W7 at *
              have g0 := HE.out.1
              have g1 := HE.out.2.1
              go_wp2
              exact bodyPost_ret (v := .tuple #[.agg #[.int .i64 k, .slice a4 lw.length c4], .slice a6 (diffOf k l lw).length c6, .int .i64 0]) (by simp [results, Tryz.results25, go_sem, g0, g1]) rfl ⟨_, _, rfl, by (try rw [hwl]); exact HE.out.2.2.1, by (try rw [hwl]); exact HSP.out, HE.out.2.2.2⟩

          · have hxw := (Array.getElem?_eq_some_iff.1 yr).1
            refine named_store2 yr _ _ fun W5 hF5 u0 u1 hz5 => ?_
            clear yr y0 y1 k0 k1
            clear r2 r3 r4 r5 e0 e1 e2 e3 p2 p3 p4 p5 hkeep
            have hw4' : Win Step.cells 4 46 w4 (.slice a4 lw.length c4) (fun i => w3.heap.size ≤ i ∧ i < w4.heap.size ∧ ¬ i = w5.heap.size + 1) lw := winC_mono (winC_block hw4) fun i hi => by
              have h2 := hi.2.2
              rcases hi.2.1 with h | h
              · have := hob i h; omega
              · (try simp only [World.size_alloc] at h); omega
            have hBz := HB3.out.1.size
            have hB4 : Below w.heap.size w w4 := HB3.out.1.trans (hb34.mono hBz)
            have hs34 := hb34.size
            have hB6' : Below w.heap.size w W5 := hB4.trans (below_of_fr hF5 hB4.size fun i hi => by have h2 : i = w5.heap.size + 1 := hi; omega)
            have hr5 := (hF5.block (w.heap.size + 1 + 1) (by omega) (fun h => by have h2 : w.heap.size + 1 + 1 = w5.heap.size + 1 := h; omega)).trans ((hb34.block (w.heap.size + 1 + 1) (by omega)).trans HB3.out.2.1)
            have z0 := fr_cell hF5 r0 (fun h => by have h2 : w.heap.size = w5.heap.size + 1 := h; omega)
            have z1 := fr_cell hF5 r1 (fun h => by have h2 : w.heap.size = w5.heap.size + 1 := h; omega)
            have f0 := cell_blk hr5 0
            have f1 := cell_blk hr5 1
            have k0 := free_blk hr5 0
            have k1 := free_blk hr5 1
            have hw5' : Win Step.cells 4 46 W5 (.slice a4 lw.length c4) (fun i => i ≠ w.heap.size + 1 + 1 ∧ w.heap.size ≤ i) lw := winC_mono (winC_move hw4' hF5 (fun i hi h => hi.2.2 h)) fun i hi => ⟨by omega, by omega⟩
            have hDC := spans_any k _ _ l lw W5.drew ((HR.out.below hB6').below (Below.refl _ _).drew) ((win_rd step_len hw5').below (Below.refl _ _).drew) (by omega) (by omega) (lines_time HL.out HW.out.1)
            have H5 := Lib.hid (And.intro hB6' (And.intro hr5 (And.intro hw5' hDC)))
            clear hb34 hB6' hr5 hw4 hw4' hw5' hDC d0 d1 p0 p1 r0 r1 hF5 hB4 hw5 hb35 hf4 hob
            try clear hoz
            try clear hsx
            have hX : w.heap.size + 1 + 1 < w5.heap.size + 1 := by omega
            generalize w5.heap.size + 1 = X at *
            go_wp2

            have ED := Lib.hid (enters_of Tryz.func42 (by kernel_rfl) rfl)
            set_option maxRecDepth 10000 in
            go_region_held3 (fun W => W.cell? ⟨X, 0, none⟩ = some (.int .i64 k) ∧ W.cell? ⟨X, 1, none⟩ = some (.slice a4 lw.length c4) ∧ W.cell? ⟨w.heap.size, 0, none⟩ = some (.int .i64 k) ∧ W.cell? ⟨w.heap.size, 1, none⟩ = some (.slice a l.length c)) (first | exact ⟨u0, u1, z0, z1⟩ | exact ⟨p0, p1, p2, p3⟩ | exact ⟨fr_cell (stored2 w6 (w.heap.size + 1 + 1) _ _) p0 (fun h => by have h2 : X = w.heap.size + 1 + 1 := h; omega), fr_cell (stored2 w6 (w.heap.size + 1 + 1) _ _) p1 (fun h => by have h2 : X = w.heap.size + 1 + 1 := h; omega), fr_cell (stored2 w6 (w.heap.size + 1 + 1) _ _) p2 (fun h => by have h2 : w.heap.size = w.heap.size + 1 + 1 := h; omega), fr_cell (stored2 w6 (w.heap.size + 1 + 1) _ _) p3 (fun h => by have h2 : w.heap.size = w.heap.size + 1 + 1 := h; omega)⟩ | go_keep) ((first | (refine step_call (by rfl) 42 _ _ (by rfl) (ED.out) _ (by rfl) H5.out.2.2.2 ?_; rintro _ w6 ⟨v6, rfl, hw6, hb6⟩; obtain ⟨a6, c6, rfl, _, _⟩ := winC_slice hw6; refine ⟨_, rfl, ?_⟩; have hb6' := (Below.refl W5.heap.size W5).drew.trans hb6; have p0 := below_cell hb6' u0; have p1 := below_cell hb6' u1; have p2 := below_cell hb6' z0; have p3 := below_cell hb6' z1; have q0 := below_cell hb6' f0; have q1 := below_cell hb6' f1; have k2 := below_frozen hb6' (a := ⟨w.heap.size + 1 + 1, 0, none⟩) (by show w.heap.size + 1 + 1 < _; omega) k0; have k3 := below_frozen hb6' (a := ⟨w.heap.size + 1 + 1, 1, none⟩) (by show w.heap.size + 1 + 1 < _; omega) k1) | fail))
            all_goals
              have hB6 := H5.out.1.trans (hb6'.mono H5.out.1.size)
              have hr6 := (hb6'.block _ (by omega)).trans H5.out.2.1
              have hw6l : Win Step.cells 4 46 w6 (.slice a4 lw.length c4) (fun i => i ≠ w.heap.size + 1 + 1 ∧ w.heap.size ≤ i) lw := winC_move H5.out.2.2.1 (fr_of_below (S := fun _ => False) hb6') (fun _ _ h => h)
              have hE := line_end (k := k) hB6.size hB6 hr6 (by omega) hw6l (fun i hi => hi)
              have HE := Lib.hid (hE _ rfl)
              have hsp : Win Span.cells 2 50 ((w6.setCell ⟨w.heap.size + 1 + 1, 0, none⟩ (.int .i64 k)).setCell ⟨w.heap.size + 1 + 1, 1, none⟩ (.slice a4 lw.length c4)) (.slice a6 (diffOf k l lw).length c6) (fun i => w.heap.size ≤ i) (diffOf k l lw) := winC_mono (winC_move hw6 (stored2 w6 (w.heap.size + 1 + 1) _ _) (fun i hi h => by have h2 : i = w.heap.size + 1 + 1 := h; simp [drew_size] at hi; omega)) fun i hi => by have := H5.out.1.size; simp [drew_size] at hi; omega
              have HSP := Lib.hid hsp
              clear hE hB6 hr6 hw6l hsp p0 p1 p2 p3 q0 q1 k2 k3 hw6 hb6 hb6' u0 u1 z0 z1 f0 f1 k0 k1
              generalize (w6.setCell ⟨w.heap.size + 1 + 1, 0, none⟩ (.int .i64 k)).setCell ⟨w.heap.size + 1 + 1, 1, none⟩ (.slice a4 lw.length c4) = W7 at *
              have g0 := HE.out.1
              have g1 := HE.out.2.1
              go_wp2
              exact bodyPost_ret (v := .tuple #[.agg #[.int .i64 k, .slice a4 lw.length c4], .slice a6 (diffOf k l lw).length c6, .int .i64 0]) (by simp [results, Tryz.results25, go_sem, g0, g1]) rfl ⟨_, _, rfl, by (try rw [hwl]); exact HE.out.2.2.1, by (try rw [hwl]); exact HSP.out, HE.out.2.2.2⟩

          · have hxw := (Array.getElem?_eq_some_iff.1 yr).1
            refine named_store2 yr _ _ fun W5 hF5 u0 u1 hz5 => ?_
            clear yr y0 y1 k0 k1
            clear r2 r3 r4 r5 e0 e1 e2 e3 p2 p3 p4 p5 hkeep
            have hw4' : Win Step.cells 4 46 w4 (.slice a4 lw.length c4) (fun i => w3.heap.size ≤ i ∧ i < w4.heap.size ∧ ¬ i = w5.heap.size) lw := winC_mono (winC_block hw4) fun i hi => by
              have h2 := hi.2.2
              rcases hi.2.1 with h | h
              · have := hob i h; omega
              · (try simp only [World.size_alloc] at h); omega
            have hBz := HB3.out.1.size
            have hB4 : Below w.heap.size w w4 := HB3.out.1.trans (hb34.mono hBz)
            have hs34 := hb34.size
            have hB6' : Below w.heap.size w W5 := hB4.trans (below_of_fr hF5 hB4.size fun i hi => by have h2 : i = w5.heap.size := hi; omega)
            have hr5 := (hF5.block (w.heap.size + 1 + 1) (by omega) (fun h => by have h2 : w.heap.size + 1 + 1 = w5.heap.size := h; omega)).trans ((hb34.block (w.heap.size + 1 + 1) (by omega)).trans HB3.out.2.1)
            have z0 := fr_cell hF5 r0 (fun h => by have h2 : w.heap.size = w5.heap.size := h; omega)
            have z1 := fr_cell hF5 r1 (fun h => by have h2 : w.heap.size = w5.heap.size := h; omega)
            have f0 := cell_blk hr5 0
            have f1 := cell_blk hr5 1
            have k0 := free_blk hr5 0
            have k1 := free_blk hr5 1
            have hw5' : Win Step.cells 4 46 W5 (.slice a4 lw.length c4) (fun i => i ≠ w.heap.size + 1 + 1 ∧ w.heap.size ≤ i) lw := winC_mono (winC_move hw4' hF5 (fun i hi h => hi.2.2 h)) fun i hi => ⟨by omega, by omega⟩
            have hDC := spans_any k _ _ l lw W5.drew ((HR.out.below hB6').below (Below.refl _ _).drew) ((win_rd step_len hw5').below (Below.refl _ _).drew) (by omega) (by omega) (lines_time HL.out HW.out.1)
            have H5 := Lib.hid (And.intro hB6' (And.intro hr5 (And.intro hw5' hDC)))
            clear hb34 hB6' hr5 hw4 hw4' hw5' hDC d0 d1 p0 p1 r0 r1 hF5 hB4 hw5 hb35 hf4 hob
            try clear hoz
            try clear hsx
            have hX : w.heap.size + 1 + 1 < w5.heap.size := by omega
            generalize w5.heap.size = X at *
            go_wp2

            have ED := Lib.hid (enters_of Tryz.func42 (by kernel_rfl) rfl)
            set_option maxRecDepth 10000 in
            go_region_held3 (fun W => W.cell? ⟨X, 0, none⟩ = some (.int .i64 k) ∧ W.cell? ⟨X, 1, none⟩ = some (.slice a4 lw.length c4) ∧ W.cell? ⟨w.heap.size, 0, none⟩ = some (.int .i64 k) ∧ W.cell? ⟨w.heap.size, 1, none⟩ = some (.slice a l.length c)) (first | exact ⟨u0, u1, z0, z1⟩ | exact ⟨p0, p1, p2, p3⟩ | exact ⟨fr_cell (stored2 w6 (w.heap.size + 1 + 1) _ _) p0 (fun h => by have h2 : X = w.heap.size + 1 + 1 := h; omega), fr_cell (stored2 w6 (w.heap.size + 1 + 1) _ _) p1 (fun h => by have h2 : X = w.heap.size + 1 + 1 := h; omega), fr_cell (stored2 w6 (w.heap.size + 1 + 1) _ _) p2 (fun h => by have h2 : w.heap.size = w.heap.size + 1 + 1 := h; omega), fr_cell (stored2 w6 (w.heap.size + 1 + 1) _ _) p3 (fun h => by have h2 : w.heap.size = w.heap.size + 1 + 1 := h; omega)⟩ | go_keep) ((first | (refine step_call (by rfl) 42 _ _ (by rfl) (ED.out) _ (by rfl) H5.out.2.2.2 ?_; rintro _ w6 ⟨v6, rfl, hw6, hb6⟩; obtain ⟨a6, c6, rfl, _, _⟩ := winC_slice hw6; refine ⟨_, rfl, ?_⟩; have hb6' := (Below.refl W5.heap.size W5).drew.trans hb6; have p0 := below_cell hb6' u0; have p1 := below_cell hb6' u1; have p2 := below_cell hb6' z0; have p3 := below_cell hb6' z1; have q0 := below_cell hb6' f0; have q1 := below_cell hb6' f1; have k2 := below_frozen hb6' (a := ⟨w.heap.size + 1 + 1, 0, none⟩) (by show w.heap.size + 1 + 1 < _; omega) k0; have k3 := below_frozen hb6' (a := ⟨w.heap.size + 1 + 1, 1, none⟩) (by show w.heap.size + 1 + 1 < _; omega) k1) | fail))
            all_goals
              have hB6 := H5.out.1.trans (hb6'.mono H5.out.1.size)
              have hr6 := (hb6'.block _ (by omega)).trans H5.out.2.1
              have hw6l : Win Step.cells 4 46 w6 (.slice a4 lw.length c4) (fun i => i ≠ w.heap.size + 1 + 1 ∧ w.heap.size ≤ i) lw := winC_move H5.out.2.2.1 (fr_of_below (S := fun _ => False) hb6') (fun _ _ h => h)
              have hE := line_end (k := k) hB6.size hB6 hr6 (by omega) hw6l (fun i hi => hi)
              have HE := Lib.hid (hE _ rfl)
              have hsp : Win Span.cells 2 50 ((w6.setCell ⟨w.heap.size + 1 + 1, 0, none⟩ (.int .i64 k)).setCell ⟨w.heap.size + 1 + 1, 1, none⟩ (.slice a4 lw.length c4)) (.slice a6 (diffOf k l lw).length c6) (fun i => w.heap.size ≤ i) (diffOf k l lw) := winC_mono (winC_move hw6 (stored2 w6 (w.heap.size + 1 + 1) _ _) (fun i hi h => by have h2 : i = w.heap.size + 1 + 1 := h; simp [drew_size] at hi; omega)) fun i hi => by have := H5.out.1.size; simp [drew_size] at hi; omega
              have HSP := Lib.hid hsp
              clear hE hB6 hr6 hw6l hsp p0 p1 p2 p3 q0 q1 k2 k3 hw6 hb6 hb6' u0 u1 z0 z1 f0 f1 k0 k1
              generalize (w6.setCell ⟨w.heap.size + 1 + 1, 0, none⟩ (.int .i64 k)).setCell ⟨w.heap.size + 1 + 1, 1, none⟩ (.slice a4 lw.length c4) = W7 at *
              have g0 := HE.out.1
              have g1 := HE.out.2.1
              go_wp2
              exact bodyPost_ret (v := .tuple #[.agg #[.int .i64 k, .slice a4 lw.length c4], .slice a6 (diffOf k l lw).length c6, .int .i64 0]) (by simp [results, Tryz.results25, go_sem, g0, g1]) rfl ⟨_, _, rfl, by (try rw [hwl]); exact HE.out.2.2.1, by (try rw [hwl]); exact HSP.out, HE.out.2.2.2⟩

          · refine named_box w4 _ _ fun W5 hbx hzx hx5 => ?_
            have u0 : W5.cell? ⟨w4.heap.size, 0, none⟩ = some (.int .i64 k) := hx5 0
            have u1 : W5.cell? ⟨w4.heap.size, 1, none⟩ = some (.slice a4 lw.length c4) := hx5 1
            have hF5 : Fr (fun i => i = w4.heap.size) w4 W5 := fr_of_below hbx
            clear hx5 hbx
            clear r2 r3 r4 r5 e0 e1 e2 e3 p2 p3 p4 p5 hkeep
            have hw4' : Win Step.cells 4 46 w4 (.slice a4 lw.length c4) (fun i => w3.heap.size ≤ i ∧ i < w4.heap.size ∧ ¬ i = w4.heap.size) lw := winC_mono (winC_block hw4) fun i hi => by
              have h2 := hi.2.2
              rcases hi.2.1 with h | h
              · have := hob i h; omega
              · (try simp only [World.size_alloc] at h); omega
            have hBz := HB3.out.1.size
            have hB4 : Below w.heap.size w w4 := HB3.out.1.trans (hb34.mono hBz)
            have hs34 := hb34.size
            have hB6' : Below w.heap.size w W5 := hB4.trans (below_of_fr hF5 hB4.size fun i hi => by have h2 : i = w4.heap.size := hi; omega)
            have hr5 := (hF5.block (w.heap.size + 1 + 1) (by omega) (fun h => by have h2 : w.heap.size + 1 + 1 = w4.heap.size := h; omega)).trans ((hb34.block (w.heap.size + 1 + 1) (by omega)).trans HB3.out.2.1)
            have z0 := fr_cell hF5 r0 (fun h => by have h2 : w.heap.size = w4.heap.size := h; omega)
            have z1 := fr_cell hF5 r1 (fun h => by have h2 : w.heap.size = w4.heap.size := h; omega)
            have f0 := cell_blk hr5 0
            have f1 := cell_blk hr5 1
            have k0 := free_blk hr5 0
            have k1 := free_blk hr5 1
            have hw5' : Win Step.cells 4 46 W5 (.slice a4 lw.length c4) (fun i => i ≠ w.heap.size + 1 + 1 ∧ w.heap.size ≤ i) lw := winC_mono (winC_move hw4' hF5 (fun i hi h => hi.2.2 h)) fun i hi => ⟨by omega, by omega⟩
            have hDC := spans_any k _ _ l lw W5.drew ((HR.out.below hB6').below (Below.refl _ _).drew) ((win_rd step_len hw5').below (Below.refl _ _).drew) (by omega) (by omega) (lines_time HL.out HW.out.1)
            have H5 := Lib.hid (And.intro hB6' (And.intro hr5 (And.intro hw5' hDC)))
            clear hb34 hB6' hr5 hw4 hw4' hw5' hDC d0 d1 p0 p1 r0 r1 hF5 hB4 hw5 hb35 hf4 hob
            try clear hoz
            try clear hsx
            have hX : w.heap.size + 1 + 1 < w4.heap.size := by omega
            generalize w4.heap.size = X at *
            go_wp2

            have ED := Lib.hid (enters_of Tryz.func42 (by kernel_rfl) rfl)
            set_option maxRecDepth 10000 in
            go_region_held3 (fun W => W.cell? ⟨X, 0, none⟩ = some (.int .i64 k) ∧ W.cell? ⟨X, 1, none⟩ = some (.slice a4 lw.length c4) ∧ W.cell? ⟨w.heap.size, 0, none⟩ = some (.int .i64 k) ∧ W.cell? ⟨w.heap.size, 1, none⟩ = some (.slice a l.length c)) (first | exact ⟨u0, u1, z0, z1⟩ | exact ⟨p0, p1, p2, p3⟩ | exact ⟨fr_cell (stored2 w6 (w.heap.size + 1 + 1) _ _) p0 (fun h => by have h2 : X = w.heap.size + 1 + 1 := h; omega), fr_cell (stored2 w6 (w.heap.size + 1 + 1) _ _) p1 (fun h => by have h2 : X = w.heap.size + 1 + 1 := h; omega), fr_cell (stored2 w6 (w.heap.size + 1 + 1) _ _) p2 (fun h => by have h2 : w.heap.size = w.heap.size + 1 + 1 := h; omega), fr_cell (stored2 w6 (w.heap.size + 1 + 1) _ _) p3 (fun h => by have h2 : w.heap.size = w.heap.size + 1 + 1 := h; omega)⟩ | go_keep) ((first | (refine step_call (by rfl) 42 _ _ (by rfl) (ED.out) _ (by rfl) H5.out.2.2.2 ?_; rintro _ w6 ⟨v6, rfl, hw6, hb6⟩; obtain ⟨a6, c6, rfl, _, _⟩ := winC_slice hw6; refine ⟨_, rfl, ?_⟩; have hb6' := (Below.refl W5.heap.size W5).drew.trans hb6; have p0 := below_cell hb6' u0; have p1 := below_cell hb6' u1; have p2 := below_cell hb6' z0; have p3 := below_cell hb6' z1; have q0 := below_cell hb6' f0; have q1 := below_cell hb6' f1; have k2 := below_frozen hb6' (a := ⟨w.heap.size + 1 + 1, 0, none⟩) (by show w.heap.size + 1 + 1 < _; omega) k0; have k3 := below_frozen hb6' (a := ⟨w.heap.size + 1 + 1, 1, none⟩) (by show w.heap.size + 1 + 1 < _; omega) k1) | fail))
            all_goals
              have hB6 := H5.out.1.trans (hb6'.mono H5.out.1.size)
              have hr6 := (hb6'.block _ (by omega)).trans H5.out.2.1
              have hw6l : Win Step.cells 4 46 w6 (.slice a4 lw.length c4) (fun i => i ≠ w.heap.size + 1 + 1 ∧ w.heap.size ≤ i) lw := winC_move H5.out.2.2.1 (fr_of_below (S := fun _ => False) hb6') (fun _ _ h => h)
              have hE := line_end (k := k) hB6.size hB6 hr6 (by omega) hw6l (fun i hi => hi)
              have HE := Lib.hid (hE _ rfl)
              have hsp : Win Span.cells 2 50 ((w6.setCell ⟨w.heap.size + 1 + 1, 0, none⟩ (.int .i64 k)).setCell ⟨w.heap.size + 1 + 1, 1, none⟩ (.slice a4 lw.length c4)) (.slice a6 (diffOf k l lw).length c6) (fun i => w.heap.size ≤ i) (diffOf k l lw) := winC_mono (winC_move hw6 (stored2 w6 (w.heap.size + 1 + 1) _ _) (fun i hi h => by have h2 : i = w.heap.size + 1 + 1 := h; simp [drew_size] at hi; omega)) fun i hi => by have := H5.out.1.size; simp [drew_size] at hi; omega
              have HSP := Lib.hid hsp
              clear hE hB6 hr6 hw6l hsp p0 p1 p2 p3 q0 q1 k2 k3 hw6 hb6 hb6' u0 u1 z0 z1 f0 f1 k0 k1
              generalize (w6.setCell ⟨w.heap.size + 1 + 1, 0, none⟩ (.int .i64 k)).setCell ⟨w.heap.size + 1 + 1, 1, none⟩ (.slice a4 lw.length c4) = W7 at *
              have g0 := HE.out.1
              have g1 := HE.out.2.1
              go_wp2
              exact bodyPost_ret (v := .tuple #[.agg #[.int .i64 k, .slice a4 lw.length c4], .slice a6 (diffOf k l lw).length c6, .int .i64 0]) (by simp [results, Tryz.results25, go_sem, g0, g1]) rfl ⟨_, _, rfl, by (try rw [hwl]); exact HE.out.2.2.1, by (try rw [hwl]); exact HSP.out, HE.out.2.2.2⟩

          · have hxw := (Array.getElem?_eq_some_iff.1 yr).1
            refine named_store2 yr _ _ fun W5 hF5 u0 u1 hz5 => ?_
            clear yr y0 y1 k0 k1
            clear r2 r3 r4 r5 e0 e1 e2 e3 p2 p3 p4 p5 hkeep
            have hw4' : Win Step.cells 4 46 w4 (.slice a4 lw.length c4) (fun i => w3.heap.size ≤ i ∧ i < w4.heap.size ∧ ¬ i = w5.heap.size) lw := winC_mono (winC_block hw4) fun i hi => by
              have h2 := hi.2.2
              rcases hi.2.1 with h | h
              · have := hob i h; omega
              · (try simp only [World.size_alloc] at h); omega
            have hBz := HB3.out.1.size
            have hB4 : Below w.heap.size w w4 := HB3.out.1.trans (hb34.mono hBz)
            have hs34 := hb34.size
            have hB6' : Below w.heap.size w W5 := hB4.trans (below_of_fr hF5 hB4.size fun i hi => by have h2 : i = w5.heap.size := hi; omega)
            have hr5 := (hF5.block (w.heap.size + 1 + 1) (by omega) (fun h => by have h2 : w.heap.size + 1 + 1 = w5.heap.size := h; omega)).trans ((hb34.block (w.heap.size + 1 + 1) (by omega)).trans HB3.out.2.1)
            have z0 := fr_cell hF5 r0 (fun h => by have h2 : w.heap.size = w5.heap.size := h; omega)
            have z1 := fr_cell hF5 r1 (fun h => by have h2 : w.heap.size = w5.heap.size := h; omega)
            have f0 := cell_blk hr5 0
            have f1 := cell_blk hr5 1
            have k0 := free_blk hr5 0
            have k1 := free_blk hr5 1
            have hw5' : Win Step.cells 4 46 W5 (.slice a4 lw.length c4) (fun i => i ≠ w.heap.size + 1 + 1 ∧ w.heap.size ≤ i) lw := winC_mono (winC_move hw4' hF5 (fun i hi h => hi.2.2 h)) fun i hi => ⟨by omega, by omega⟩
            have hDC := spans_any k _ _ l lw W5.drew ((HR.out.below hB6').below (Below.refl _ _).drew) ((win_rd step_len hw5').below (Below.refl _ _).drew) (by omega) (by omega) (lines_time HL.out HW.out.1)
            have H5 := Lib.hid (And.intro hB6' (And.intro hr5 (And.intro hw5' hDC)))
            clear hb34 hB6' hr5 hw4 hw4' hw5' hDC d0 d1 p0 p1 r0 r1 hF5 hB4 hw5 hb35 hf4 hob
            try clear hoz
            try clear hsx
            have hX : w.heap.size + 1 + 1 < w5.heap.size := by omega
            generalize w5.heap.size = X at *
            go_wp2

            have ED := Lib.hid (enters_of Tryz.func42 (by kernel_rfl) rfl)
            set_option maxRecDepth 10000 in
            go_region_held3 (fun W => W.cell? ⟨X, 0, none⟩ = some (.int .i64 k) ∧ W.cell? ⟨X, 1, none⟩ = some (.slice a4 lw.length c4) ∧ W.cell? ⟨w.heap.size, 0, none⟩ = some (.int .i64 k) ∧ W.cell? ⟨w.heap.size, 1, none⟩ = some (.slice a l.length c)) (first | exact ⟨u0, u1, z0, z1⟩ | exact ⟨p0, p1, p2, p3⟩ | exact ⟨fr_cell (stored2 w6 (w.heap.size + 1 + 1) _ _) p0 (fun h => by have h2 : X = w.heap.size + 1 + 1 := h; omega), fr_cell (stored2 w6 (w.heap.size + 1 + 1) _ _) p1 (fun h => by have h2 : X = w.heap.size + 1 + 1 := h; omega), fr_cell (stored2 w6 (w.heap.size + 1 + 1) _ _) p2 (fun h => by have h2 : w.heap.size = w.heap.size + 1 + 1 := h; omega), fr_cell (stored2 w6 (w.heap.size + 1 + 1) _ _) p3 (fun h => by have h2 : w.heap.size = w.heap.size + 1 + 1 := h; omega)⟩ | go_keep) ((first | (refine step_call (by rfl) 42 _ _ (by rfl) (ED.out) _ (by rfl) H5.out.2.2.2 ?_; rintro _ w6 ⟨v6, rfl, hw6, hb6⟩; obtain ⟨a6, c6, rfl, _, _⟩ := winC_slice hw6; refine ⟨_, rfl, ?_⟩; have hb6' := (Below.refl W5.heap.size W5).drew.trans hb6; have p0 := below_cell hb6' u0; have p1 := below_cell hb6' u1; have p2 := below_cell hb6' z0; have p3 := below_cell hb6' z1; have q0 := below_cell hb6' f0; have q1 := below_cell hb6' f1; have k2 := below_frozen hb6' (a := ⟨w.heap.size + 1 + 1, 0, none⟩) (by show w.heap.size + 1 + 1 < _; omega) k0; have k3 := below_frozen hb6' (a := ⟨w.heap.size + 1 + 1, 1, none⟩) (by show w.heap.size + 1 + 1 < _; omega) k1) | fail))
            all_goals
              have hB6 := H5.out.1.trans (hb6'.mono H5.out.1.size)
              have hr6 := (hb6'.block _ (by omega)).trans H5.out.2.1
              have hw6l : Win Step.cells 4 46 w6 (.slice a4 lw.length c4) (fun i => i ≠ w.heap.size + 1 + 1 ∧ w.heap.size ≤ i) lw := winC_move H5.out.2.2.1 (fr_of_below (S := fun _ => False) hb6') (fun _ _ h => h)
              have hE := line_end (k := k) hB6.size hB6 hr6 (by omega) hw6l (fun i hi => hi)
              have HE := Lib.hid (hE _ rfl)
              have hsp : Win Span.cells 2 50 ((w6.setCell ⟨w.heap.size + 1 + 1, 0, none⟩ (.int .i64 k)).setCell ⟨w.heap.size + 1 + 1, 1, none⟩ (.slice a4 lw.length c4)) (.slice a6 (diffOf k l lw).length c6) (fun i => w.heap.size ≤ i) (diffOf k l lw) := winC_mono (winC_move hw6 (stored2 w6 (w.heap.size + 1 + 1) _ _) (fun i hi h => by have h2 : i = w.heap.size + 1 + 1 := h; simp [drew_size] at hi; omega)) fun i hi => by have := H5.out.1.size; simp [drew_size] at hi; omega
              have HSP := Lib.hid hsp
              clear hE hB6 hr6 hw6l hsp p0 p1 p2 p3 q0 q1 k2 k3 hw6 hb6 hb6' u0 u1 z0 z1 f0 f1 k0 k1
              generalize (w6.setCell ⟨w.heap.size + 1 + 1, 0, none⟩ (.int .i64 k)).setCell ⟨w.heap.size + 1 + 1, 1, none⟩ (.slice a4 lw.length c4) = W7 at *
              have g0 := HE.out.1
              have g1 := HE.out.2.1
              go_wp2
              exact bodyPost_ret (v := .tuple #[.agg #[.int .i64 k, .slice a4 lw.length c4], .slice a6 (diffOf k l lw).length c6, .int .i64 0]) (by simp [results, Tryz.results25, go_sem, g0, g1]) rfl ⟨_, _, rfl, by (try rw [hwl]); exact HE.out.2.2.1, by (try rw [hwl]); exact HSP.out, HE.out.2.2.2⟩

          · have hxw := (Array.getElem?_eq_some_iff.1 yr).1
            refine named_store2 yr _ _ fun W5 hF5 u0 u1 hz5 => ?_
            clear yr y0 y1 k0 k1
            clear r2 r3 r4 r5 e0 e1 e2 e3 p2 p3 p4 p5 hkeep
            have hw4' : Win Step.cells 4 46 w4 (.slice a4 lw.length c4) (fun i => w3.heap.size ≤ i ∧ i < w4.heap.size ∧ ¬ i = w3.heap.size + 1) lw := winC_mono (winC_block hw4) fun i hi => by
              have h2 := hi.2.2
              rcases hi.2.1 with h | h
              · have := hob i h; omega
              · (try simp only [World.size_alloc] at h); omega
            have hBz := HB3.out.1.size
            have hB4 : Below w.heap.size w w4 := HB3.out.1.trans (hb34.mono hBz)
            have hs34 := hb34.size
            have hB6' : Below w.heap.size w W5 := hB4.trans (below_of_fr hF5 hB4.size fun i hi => by have h2 : i = w3.heap.size + 1 := hi; omega)
            have hr5 := (hF5.block (w.heap.size + 1 + 1) (by omega) (fun h => by have h2 : w.heap.size + 1 + 1 = w3.heap.size + 1 := h; omega)).trans ((hb34.block (w.heap.size + 1 + 1) (by omega)).trans HB3.out.2.1)
            have z0 := fr_cell hF5 r0 (fun h => by have h2 : w.heap.size = w3.heap.size + 1 := h; omega)
            have z1 := fr_cell hF5 r1 (fun h => by have h2 : w.heap.size = w3.heap.size + 1 := h; omega)
            have f0 := cell_blk hr5 0
            have f1 := cell_blk hr5 1
            have k0 := free_blk hr5 0
            have k1 := free_blk hr5 1
            have hw5' : Win Step.cells 4 46 W5 (.slice a4 lw.length c4) (fun i => i ≠ w.heap.size + 1 + 1 ∧ w.heap.size ≤ i) lw := winC_mono (winC_move hw4' hF5 (fun i hi h => hi.2.2 h)) fun i hi => ⟨by omega, by omega⟩
            have hDC := spans_any k _ _ l lw W5.drew ((HR.out.below hB6').below (Below.refl _ _).drew) ((win_rd step_len hw5').below (Below.refl _ _).drew) (by omega) (by omega) (lines_time HL.out HW.out.1)
            have H5 := Lib.hid (And.intro hB6' (And.intro hr5 (And.intro hw5' hDC)))
            clear hb34 hB6' hr5 hw4 hw4' hw5' hDC d0 d1 p0 p1 r0 r1 hF5 hB4 hw5 hb35 hf4 hob
            try clear hoz
            try clear hsx
            have hX : w.heap.size + 1 + 1 < w3.heap.size + 1 := by omega
            generalize w3.heap.size + 1 = X at *
            go_wp2

            have ED := Lib.hid (enters_of Tryz.func42 (by kernel_rfl) rfl)
            set_option maxRecDepth 10000 in
            go_region_held3 (fun W => W.cell? ⟨X, 0, none⟩ = some (.int .i64 k) ∧ W.cell? ⟨X, 1, none⟩ = some (.slice a4 lw.length c4) ∧ W.cell? ⟨w.heap.size, 0, none⟩ = some (.int .i64 k) ∧ W.cell? ⟨w.heap.size, 1, none⟩ = some (.slice a l.length c)) (first | exact ⟨u0, u1, z0, z1⟩ | exact ⟨p0, p1, p2, p3⟩ | exact ⟨fr_cell (stored2 w6 (w.heap.size + 1 + 1) _ _) p0 (fun h => by have h2 : X = w.heap.size + 1 + 1 := h; omega), fr_cell (stored2 w6 (w.heap.size + 1 + 1) _ _) p1 (fun h => by have h2 : X = w.heap.size + 1 + 1 := h; omega), fr_cell (stored2 w6 (w.heap.size + 1 + 1) _ _) p2 (fun h => by have h2 : w.heap.size = w.heap.size + 1 + 1 := h; omega), fr_cell (stored2 w6 (w.heap.size + 1 + 1) _ _) p3 (fun h => by have h2 : w.heap.size = w.heap.size + 1 + 1 := h; omega)⟩ | go_keep) ((first | (refine step_call (by rfl) 42 _ _ (by rfl) (ED.out) _ (by rfl) H5.out.2.2.2 ?_; rintro _ w6 ⟨v6, rfl, hw6, hb6⟩; obtain ⟨a6, c6, rfl, _, _⟩ := winC_slice hw6; refine ⟨_, rfl, ?_⟩; have hb6' := (Below.refl W5.heap.size W5).drew.trans hb6; have p0 := below_cell hb6' u0; have p1 := below_cell hb6' u1; have p2 := below_cell hb6' z0; have p3 := below_cell hb6' z1; have q0 := below_cell hb6' f0; have q1 := below_cell hb6' f1; have k2 := below_frozen hb6' (a := ⟨w.heap.size + 1 + 1, 0, none⟩) (by show w.heap.size + 1 + 1 < _; omega) k0; have k3 := below_frozen hb6' (a := ⟨w.heap.size + 1 + 1, 1, none⟩) (by show w.heap.size + 1 + 1 < _; omega) k1) | fail))
            all_goals
              have hB6 := H5.out.1.trans (hb6'.mono H5.out.1.size)
              have hr6 := (hb6'.block _ (by omega)).trans H5.out.2.1
              have hw6l : Win Step.cells 4 46 w6 (.slice a4 lw.length c4) (fun i => i ≠ w.heap.size + 1 + 1 ∧ w.heap.size ≤ i) lw := winC_move H5.out.2.2.1 (fr_of_below (S := fun _ => False) hb6') (fun _ _ h => h)
              have hE := line_end (k := k) hB6.size hB6 hr6 (by omega) hw6l (fun i hi => hi)
              have HE := Lib.hid (hE _ rfl)
              have hsp : Win Span.cells 2 50 ((w6.setCell ⟨w.heap.size + 1 + 1, 0, none⟩ (.int .i64 k)).setCell ⟨w.heap.size + 1 + 1, 1, none⟩ (.slice a4 lw.length c4)) (.slice a6 (diffOf k l lw).length c6) (fun i => w.heap.size ≤ i) (diffOf k l lw) := winC_mono (winC_move hw6 (stored2 w6 (w.heap.size + 1 + 1) _ _) (fun i hi h => by have h2 : i = w.heap.size + 1 + 1 := h; simp [drew_size] at hi; omega)) fun i hi => by have := H5.out.1.size; simp [drew_size] at hi; omega
              have HSP := Lib.hid hsp
              clear hE hB6 hr6 hw6l hsp p0 p1 p2 p3 q0 q1 k2 k3 hw6 hb6 hb6' u0 u1 z0 z1 f0 f1 k0 k1
              generalize (w6.setCell ⟨w.heap.size + 1 + 1, 0, none⟩ (.int .i64 k)).setCell ⟨w.heap.size + 1 + 1, 1, none⟩ (.slice a4 lw.length c4) = W7 at *
              have g0 := HE.out.1
              have g1 := HE.out.2.1
              go_wp2
              exact bodyPost_ret (v := .tuple #[.agg #[.int .i64 k, .slice a4 lw.length c4], .slice a6 (diffOf k l lw).length c6, .int .i64 0]) (by simp [results, Tryz.results25, go_sem, g0, g1]) rfl ⟨_, _, rfl, by (try rw [hwl]); exact HE.out.2.2.1, by (try rw [hwl]); exact HSP.out, HE.out.2.2.2⟩

          · have hxw := (Array.getElem?_eq_some_iff.1 yr).1
            refine named_store2 yr _ _ fun W5 hF5 u0 u1 hz5 => ?_
            clear yr y0 y1 k0 k1
            clear r2 r3 r4 r5 e0 e1 e2 e3 p2 p3 p4 p5 hkeep
            have hw4' : Win Step.cells 4 46 w4 (.slice a4 lw.length c4) (fun i => w3.heap.size ≤ i ∧ i < w4.heap.size ∧ ¬ i = w3.heap.size) lw := winC_mono (winC_block hw4) fun i hi => by
              have h2 := hi.2.2
              rcases hi.2.1 with h | h
              · have := hob i h; omega
              · (try simp only [World.size_alloc] at h); omega
            have hBz := HB3.out.1.size
            have hB4 : Below w.heap.size w w4 := HB3.out.1.trans (hb34.mono hBz)
            have hs34 := hb34.size
            have hB6' : Below w.heap.size w W5 := hB4.trans (below_of_fr hF5 hB4.size fun i hi => by have h2 : i = w3.heap.size := hi; omega)
            have hr5 := (hF5.block (w.heap.size + 1 + 1) (by omega) (fun h => by have h2 : w.heap.size + 1 + 1 = w3.heap.size := h; omega)).trans ((hb34.block (w.heap.size + 1 + 1) (by omega)).trans HB3.out.2.1)
            have z0 := fr_cell hF5 r0 (fun h => by have h2 : w.heap.size = w3.heap.size := h; omega)
            have z1 := fr_cell hF5 r1 (fun h => by have h2 : w.heap.size = w3.heap.size := h; omega)
            have f0 := cell_blk hr5 0
            have f1 := cell_blk hr5 1
            have k0 := free_blk hr5 0
            have k1 := free_blk hr5 1
            have hw5' : Win Step.cells 4 46 W5 (.slice a4 lw.length c4) (fun i => i ≠ w.heap.size + 1 + 1 ∧ w.heap.size ≤ i) lw := winC_mono (winC_move hw4' hF5 (fun i hi h => hi.2.2 h)) fun i hi => ⟨by omega, by omega⟩
            have hDC := spans_any k _ _ l lw W5.drew ((HR.out.below hB6').below (Below.refl _ _).drew) ((win_rd step_len hw5').below (Below.refl _ _).drew) (by omega) (by omega) (lines_time HL.out HW.out.1)
            have H5 := Lib.hid (And.intro hB6' (And.intro hr5 (And.intro hw5' hDC)))
            clear hb34 hB6' hr5 hw4 hw4' hw5' hDC d0 d1 p0 p1 r0 r1 hF5 hB4 hw5 hb35 hf4 hob
            try clear hoz
            try clear hsx
            have hX : w.heap.size + 1 + 1 < w3.heap.size := by omega
            generalize w3.heap.size = X at *
            go_wp2

            have ED := Lib.hid (enters_of Tryz.func42 (by kernel_rfl) rfl)
            set_option maxRecDepth 10000 in
            go_region_held3 (fun W => W.cell? ⟨X, 0, none⟩ = some (.int .i64 k) ∧ W.cell? ⟨X, 1, none⟩ = some (.slice a4 lw.length c4) ∧ W.cell? ⟨w.heap.size, 0, none⟩ = some (.int .i64 k) ∧ W.cell? ⟨w.heap.size, 1, none⟩ = some (.slice a l.length c)) (first | exact ⟨u0, u1, z0, z1⟩ | exact ⟨p0, p1, p2, p3⟩ | exact ⟨fr_cell (stored2 w6 (w.heap.size + 1 + 1) _ _) p0 (fun h => by have h2 : X = w.heap.size + 1 + 1 := h; omega), fr_cell (stored2 w6 (w.heap.size + 1 + 1) _ _) p1 (fun h => by have h2 : X = w.heap.size + 1 + 1 := h; omega), fr_cell (stored2 w6 (w.heap.size + 1 + 1) _ _) p2 (fun h => by have h2 : w.heap.size = w.heap.size + 1 + 1 := h; omega), fr_cell (stored2 w6 (w.heap.size + 1 + 1) _ _) p3 (fun h => by have h2 : w.heap.size = w.heap.size + 1 + 1 := h; omega)⟩ | go_keep) ((first | (refine step_call (by rfl) 42 _ _ (by rfl) (ED.out) _ (by rfl) H5.out.2.2.2 ?_; rintro _ w6 ⟨v6, rfl, hw6, hb6⟩; obtain ⟨a6, c6, rfl, _, _⟩ := winC_slice hw6; refine ⟨_, rfl, ?_⟩; have hb6' := (Below.refl W5.heap.size W5).drew.trans hb6; have p0 := below_cell hb6' u0; have p1 := below_cell hb6' u1; have p2 := below_cell hb6' z0; have p3 := below_cell hb6' z1; have q0 := below_cell hb6' f0; have q1 := below_cell hb6' f1; have k2 := below_frozen hb6' (a := ⟨w.heap.size + 1 + 1, 0, none⟩) (by show w.heap.size + 1 + 1 < _; omega) k0; have k3 := below_frozen hb6' (a := ⟨w.heap.size + 1 + 1, 1, none⟩) (by show w.heap.size + 1 + 1 < _; omega) k1) | fail))
            all_goals
              have hB6 := H5.out.1.trans (hb6'.mono H5.out.1.size)
              have hr6 := (hb6'.block _ (by omega)).trans H5.out.2.1
              have hw6l : Win Step.cells 4 46 w6 (.slice a4 lw.length c4) (fun i => i ≠ w.heap.size + 1 + 1 ∧ w.heap.size ≤ i) lw := winC_move H5.out.2.2.1 (fr_of_below (S := fun _ => False) hb6') (fun _ _ h => h)
              have hE := line_end (k := k) hB6.size hB6 hr6 (by omega) hw6l (fun i hi => hi)
              have HE := Lib.hid (hE _ rfl)
              have hsp : Win Span.cells 2 50 ((w6.setCell ⟨w.heap.size + 1 + 1, 0, none⟩ (.int .i64 k)).setCell ⟨w.heap.size + 1 + 1, 1, none⟩ (.slice a4 lw.length c4)) (.slice a6 (diffOf k l lw).length c6) (fun i => w.heap.size ≤ i) (diffOf k l lw) := winC_mono (winC_move hw6 (stored2 w6 (w.heap.size + 1 + 1) _ _) (fun i hi h => by have h2 : i = w.heap.size + 1 + 1 := h; simp [drew_size] at hi; omega)) fun i hi => by have := H5.out.1.size; simp [drew_size] at hi; omega
              have HSP := Lib.hid hsp
              clear hE hB6 hr6 hw6l hsp p0 p1 p2 p3 q0 q1 k2 k3 hw6 hb6 hb6' u0 u1 z0 z1 f0 f1 k0 k1
              generalize (w6.setCell ⟨w.heap.size + 1 + 1, 0, none⟩ (.int .i64 k)).setCell ⟨w.heap.size + 1 + 1, 1, none⟩ (.slice a4 lw.length c4) = W7 at *
              have g0 := HE.out.1
              have g1 := HE.out.2.1
              go_wp2
              exact bodyPost_ret (v := .tuple #[.agg #[.int .i64 k, .slice a4 lw.length c4], .slice a6 (diffOf k l lw).length c6, .int .i64 0]) (by simp [results, Tryz.results25, go_sem, g0, g1]) rfl ⟨_, _, rfl, by (try rw [hwl]); exact HE.out.2.2.1, by (try rw [hwl]); exact HSP.out, HE.out.2.2.2⟩

          · have hxw := (Array.getElem?_eq_some_iff.1 yr).1
            refine named_store2 yr _ _ fun W5 hF5 u0 u1 hz5 => ?_
            clear yr y0 y1 k0 k1
            clear r2 r3 r4 r5 e0 e1 e2 e3 p2 p3 p4 p5 hkeep
            have hw4' : Win Step.cells 4 46 w4 (.slice a4 lw.length c4) (fun i => w3.heap.size ≤ i ∧ i < w4.heap.size ∧ ¬ i = w3.heap.size) lw := winC_mono (winC_block hw4) fun i hi => by
              have h2 := hi.2.2
              rcases hi.2.1 with h | h
              · have := hob i h; omega
              · (try simp only [World.size_alloc] at h); omega
            have hBz := HB3.out.1.size
            have hB4 : Below w.heap.size w w4 := HB3.out.1.trans (hb34.mono hBz)
            have hs34 := hb34.size
            have hB6' : Below w.heap.size w W5 := hB4.trans (below_of_fr hF5 hB4.size fun i hi => by have h2 : i = w3.heap.size := hi; omega)
            have hr5 := (hF5.block (w.heap.size + 1 + 1) (by omega) (fun h => by have h2 : w.heap.size + 1 + 1 = w3.heap.size := h; omega)).trans ((hb34.block (w.heap.size + 1 + 1) (by omega)).trans HB3.out.2.1)
            have z0 := fr_cell hF5 r0 (fun h => by have h2 : w.heap.size = w3.heap.size := h; omega)
            have z1 := fr_cell hF5 r1 (fun h => by have h2 : w.heap.size = w3.heap.size := h; omega)
            have f0 := cell_blk hr5 0
            have f1 := cell_blk hr5 1
            have k0 := free_blk hr5 0
            have k1 := free_blk hr5 1
            have hw5' : Win Step.cells 4 46 W5 (.slice a4 lw.length c4) (fun i => i ≠ w.heap.size + 1 + 1 ∧ w.heap.size ≤ i) lw := winC_mono (winC_move hw4' hF5 (fun i hi h => hi.2.2 h)) fun i hi => ⟨by omega, by omega⟩
            have hDC := spans_any k _ _ l lw W5.drew ((HR.out.below hB6').below (Below.refl _ _).drew) ((win_rd step_len hw5').below (Below.refl _ _).drew) (by omega) (by omega) (lines_time HL.out HW.out.1)
            have H5 := Lib.hid (And.intro hB6' (And.intro hr5 (And.intro hw5' hDC)))
            clear hb34 hB6' hr5 hw4 hw4' hw5' hDC d0 d1 p0 p1 r0 r1 hF5 hB4 hw5 hb35 hf4 hob
            try clear hoz
            try clear hsx
            have hX : w.heap.size + 1 + 1 < w3.heap.size := by omega
            generalize w3.heap.size = X at *
            go_wp2

            have ED := Lib.hid (enters_of Tryz.func42 (by kernel_rfl) rfl)
            set_option maxRecDepth 10000 in
            go_region_held3 (fun W => W.cell? ⟨X, 0, none⟩ = some (.int .i64 k) ∧ W.cell? ⟨X, 1, none⟩ = some (.slice a4 lw.length c4) ∧ W.cell? ⟨w.heap.size, 0, none⟩ = some (.int .i64 k) ∧ W.cell? ⟨w.heap.size, 1, none⟩ = some (.slice a l.length c)) (first | exact ⟨u0, u1, z0, z1⟩ | exact ⟨p0, p1, p2, p3⟩ | exact ⟨fr_cell (stored2 w6 (w.heap.size + 1 + 1) _ _) p0 (fun h => by have h2 : X = w.heap.size + 1 + 1 := h; omega), fr_cell (stored2 w6 (w.heap.size + 1 + 1) _ _) p1 (fun h => by have h2 : X = w.heap.size + 1 + 1 := h; omega), fr_cell (stored2 w6 (w.heap.size + 1 + 1) _ _) p2 (fun h => by have h2 : w.heap.size = w.heap.size + 1 + 1 := h; omega), fr_cell (stored2 w6 (w.heap.size + 1 + 1) _ _) p3 (fun h => by have h2 : w.heap.size = w.heap.size + 1 + 1 := h; omega)⟩ | go_keep) ((first | (refine step_call (by rfl) 42 _ _ (by rfl) (ED.out) _ (by rfl) H5.out.2.2.2 ?_; rintro _ w6 ⟨v6, rfl, hw6, hb6⟩; obtain ⟨a6, c6, rfl, _, _⟩ := winC_slice hw6; refine ⟨_, rfl, ?_⟩; have hb6' := (Below.refl W5.heap.size W5).drew.trans hb6; have p0 := below_cell hb6' u0; have p1 := below_cell hb6' u1; have p2 := below_cell hb6' z0; have p3 := below_cell hb6' z1; have q0 := below_cell hb6' f0; have q1 := below_cell hb6' f1; have k2 := below_frozen hb6' (a := ⟨w.heap.size + 1 + 1, 0, none⟩) (by show w.heap.size + 1 + 1 < _; omega) k0; have k3 := below_frozen hb6' (a := ⟨w.heap.size + 1 + 1, 1, none⟩) (by show w.heap.size + 1 + 1 < _; omega) k1) | fail))
            all_goals
              have hB6 := H5.out.1.trans (hb6'.mono H5.out.1.size)
              have hr6 := (hb6'.block _ (by omega)).trans H5.out.2.1
              have hw6l : Win Step.cells 4 46 w6 (.slice a4 lw.length c4) (fun i => i ≠ w.heap.size + 1 + 1 ∧ w.heap.size ≤ i) lw := winC_move H5.out.2.2.1 (fr_of_below (S := fun _ => False) hb6') (fun _ _ h => h)
              have hE := line_end (k := k) hB6.size hB6 hr6 (by omega) hw6l (fun i hi => hi)
              have HE := Lib.hid (hE _ rfl)
              have hsp : Win Span.cells 2 50 ((w6.setCell ⟨w.heap.size + 1 + 1, 0, none⟩ (.int .i64 k)).setCell ⟨w.heap.size + 1 + 1, 1, none⟩ (.slice a4 lw.length c4)) (.slice a6 (diffOf k l lw).length c6) (fun i => w.heap.size ≤ i) (diffOf k l lw) := winC_mono (winC_move hw6 (stored2 w6 (w.heap.size + 1 + 1) _ _) (fun i hi h => by have h2 : i = w.heap.size + 1 + 1 := h; simp [drew_size] at hi; omega)) fun i hi => by have := H5.out.1.size; simp [drew_size] at hi; omega
              have HSP := Lib.hid hsp
              clear hE hB6 hr6 hw6l hsp p0 p1 p2 p3 q0 q1 k2 k3 hw6 hb6 hb6' u0 u1 z0 z1 f0 f1 k0 k1
              generalize (w6.setCell ⟨w.heap.size + 1 + 1, 0, none⟩ (.int .i64 k)).setCell ⟨w.heap.size + 1 + 1, 1, none⟩ (.slice a4 lw.length c4) = W7 at *
              have g0 := HE.out.1
              have g1 := HE.out.2.1
              go_wp2
              exact bodyPost_ret (v := .tuple #[.agg #[.int .i64 k, .slice a4 lw.length c4], .slice a6 (diffOf k l lw).length c6, .int .i64 0]) (by simp [results, Tryz.results25, go_sem, g0, g1]) rfl ⟨_, _, rfl, by (try rw [hwl]); exact HE.out.2.2.1, by (try rw [hwl]); exact HSP.out, HE.out.2.2.2⟩

end Go.Proofs.YtkoeplbkeboklaaGreat
/- slices.Equal at pairs, spans and lives. -/
set_option linter.unusedVariables false
set_option linter.unusedSimpArgs false
namespace Go.Proofs.YtkoeplbkeboklaaGreat
open Go.RowKit
set_option maxHeartbeats 2000000 in
/-- equalPairs: two rows are read and compared. -/
theorem equalPairs_any (v1 v2 : Value) (xs ys : List Pair) (w : World) (h1 : Rd Pair.cells 2 w v1 xs) (h2 : Rd Pair.cells 2 w v2 ys) :
    Calls Tryz.prog 13 #[v1, v2] w fun e w' => e = .returned (.bool (decide (xs = ys))) ∧ Below w.heap.size w w' := by
  obtain ⟨n1, a1, c1, rfl, r1⟩ := h1
  obtain ⟨n2, a2, c2, rfl, r2⟩ := h2
  by_cases hl : xs.length = ys.length
  · have hlb : ((xs.length : Int) != (ys.length : Int)) = false := by rw [hl]; simp
    have hlc : ((ys.length : Int) != (ys.length : Int)) = false := by simp
    rw [hl] at hlb ⊢
    have HL := Lib.hid hl
    have m1 : xs.length ≤ ys.length := by omega
    have m2 : ys.length ≤ xs.length := by omega
    clear hl n1
    have R1 := Lib.hid r1
    have R2 := Lib.hid r2
    clear r1 r2
    go_enter Tryz.func13, Tryz.ntmps13
    go_wp2
    go_loopw [13] (fun i W => ∃ n : Nat, i = .int .i64 n ∧ n ≤ ys.length ∧ eqTo xs ys n ∧ Below w.heap.size w W) (fun i _ => ys.length - (intOf i).toNat)
    case atStart => exact ⟨0, rfl, by omega, eqTo_zero _ _, Below.refl _ _⟩
    case round =>
      obtain ⟨n, rfl, hnl, hok, hB⟩ := hrel
      by_cases hlt' : n < ys.length
      · obtain ⟨b1, o1, rfl, hb1, rd1⟩ := R1.out (by omega)
        obtain ⟨b2, o2, rfl, hb2, rd2⟩ := R2.out (by omega)
        have hx := List.getElem?_eq_getElem (show n < xs.length by omega)
        have hy := List.getElem?_eq_getElem (show n < ys.length by omega)
        generalize xs[n] = x at hx
        generalize ys[n] = y at hy
        have hc1 : ∀ j u, x.cells[j]? = some u → wr.cell? ⟨b1, o1 + n * 2 + j, none⟩ = some u := fun j u hu => (hB.cell (p := ⟨b1, _, none⟩) hb1).trans (rd1 n x hx j u hu)
        have hc2 : ∀ j u, y.cells[j]? = some u → wr.cell? ⟨b2, o2 + n * 2 + j, none⟩ = some u := fun j u hu => (hB.cell (p := ⟨b2, _, none⟩) hb2).trans (rd2 n y hy j u hu)
        have HX := Lib.hid hx; clear hx
        have HY := Lib.hid hy; clear hy
        have q0 : wr.cell? ⟨b1, o1 + n * 2, none⟩ = some (.int .i64 x.key) := hc1 0 _ rfl
        have q1 := hc1 1 _ rfl
        have p0 : wr.cell? ⟨b2, o2 + n * 2, none⟩ = some (.int .i64 y.key) := hc2 0 _ rfl
        have p1 := hc2 1 _ rfl
        clear hc1 hc2 rd1 rd2 R1 R2
        have hne := fun w' => neqPair x y w'
        by_cases hxy : x = y
        · have hd : decide (x = y) = true := decide_eq_true hxy
          have HE := Lib.hid hxy; clear hxy
          go_wp2
          go_quiet (fail)
          go_wp2
          go_roundw
          case rel => exact ⟨n + 1, by go_num, by omega, eqTo_succ hok HX.out HY.out HE.out, below_drewN hB _⟩
          case measure => simp [intOf]; omega
        · have hd : decide (x = y) = false := decide_eq_false hxy
          have HE := Lib.hid hxy; clear hxy
          go_wp2
          go_quiet (fail)
          go_wp2
          go_ret
          exact ⟨by rw [eqTo_bad HX.out HY.out HE.out]; rfl, below_drewN hB _⟩
      · obtain rfl : n = ys.length := by omega
        clear R1 R2
        go_wp2
        go_ret
        exact ⟨by rw [eqTo_all HL.out hok]; rfl, hB⟩
  · have hlb : ((xs.length : Int) != (ys.length : Int)) = true := by simp; omega
    have e : decide (xs = ys) = false := decide_eq_false fun h => hl (by rw [h])
    rw [e]
    clear r1 r2 e hl
    go_enter Tryz.func13, Tryz.ntmps13
    go_wp2
    go_ret
    exact ⟨rfl, Below.refl _ _⟩

end Go.Proofs.YtkoeplbkeboklaaGreat
/- retro.At: what it returns. -/
set_option linter.unusedVariables false
set_option linter.unusedSimpArgs false
namespace Go.Proofs.YtkoeplbkeboklaaGreat
open Go.RowKit
set_option maxHeartbeats 1000000 in
theorem at_any (k : Int) (v : Value) (l : List Step) (t : Int) (w : World) (hr : Rd Step.cells 4 w v l) :
    Calls Tryz.prog 6 #[.agg #[.int .i64 k, v], .int .i64 t] w fun e w' => ∃ v, e = .returned (.tuple #[v, .int .i64 (atP k l t).2]) ∧ Win Pair.cells 2 39 w' v (fun i => w.heap.size ≤ i) (atP k l t).1 ∧ Below w.heap.size w w' := by
  obtain ⟨a, c, rfl⟩ : ∃ a c, v = .slice a l.length c := by obtain ⟨_, a, c, rfl, _⟩ := hr; exact ⟨a, c, rfl⟩
  have HR := Lib.hid hr
  clear hr
  cases hi : isLineP k l with
  | false =>
    have hat : atP k l t = ([], 2) := by simp [atP, hi]
    rw [hat]
    have hcon := (isLine_any k _ l _ (HR.out.below ((Below.refl w.heap.size w).alloc (Nat.le_refl _) (.cells #[.int .i64 k, .slice a l.length c] 25))))
    rw [hi] at hcon
    have HC := Lib.hid hcon
    clear hat hi hcon
    go_enter Tryz.func6, Tryz.ntmps6
    go_wp2_with (go_at_call 14; refine HC.out.mono ?_; rintro e w1 ⟨rfl, hb1⟩)
    go_ret2
    exact ⟨_, rfl, winC_nil _ _ _ _, ((Below.refl w.heap.size w).alloc (Nat.le_refl _) _).trans (hb1.mono (by simp))⟩
  | true =>
    have hat : atP k l t = (thereP k l t, 0) := by simp [atP, hi]
    rw [hat]
    have hcon := (isLine_any k _ l _ (HR.out.below ((Below.refl w.heap.size w).alloc (Nat.le_refl _) (.cells #[.int .i64 k, .slice a l.length c] 25))))
    rw [hi] at hcon
    have HC := Lib.hid hcon
    have hlen : l.length ≤ 100000 := by have := (isLineP_spec hi).2.2.1; omega
    clear hat hi hcon
    have hbx : ∀ o, Below w.heap.size w (w.alloc o) := fun o => (Below.refl w.heap.size w).alloc (Nat.le_refl _) o
    have HB := Lib.hid hbx
    clear hbx
    go_enter Tryz.func6, Tryz.ntmps6
    go_wp2_with (first | (go_at_call 14; refine HC.out.mono ?_; rintro e w1 ⟨rfl, hb1⟩; have c0 := below_cell hb1 (World.cell?_alloc_new w #[.int .i64 k, .slice a l.length c] 25 0); have c1 := below_cell hb1 (World.cell?_alloc_new w #[.int .i64 k, .slice a l.length c] 25 1)) | (go_at_call 17; refine (there_any k _ l t _ (HR.out.below ((HB.out _).trans (hb1.mono (by simp)))) hlen).mono ?_; rintro e w2 ⟨v2, rfl, hw2, hb2⟩))
    go_ret2
    have hb0 : Below w.heap.size w w1 := (HB.out _).trans (hb1.mono (by simp))
    exact ⟨_, rfl, winC_mono hw2 fun i hi => Nat.le_trans hb0.size hi, hb0.trans (hb2.mono hb0.size)⟩

end Go.Proofs.YtkoeplbkeboklaaGreat
/- Contracts in the form of closed examples: what a call yields where the plain answer is known. -/
set_option linter.unusedVariables false
set_option linter.unusedSimpArgs false
namespace Go.Proofs.YtkoeplbkeboklaaGreat
open Go.RowKit
theorem win_out {α : Type} {enc : α → List Value} {k e : Nat} {w : World} {v : Value} {S : Nat → Prop} {xs : List α} (hk : ∀ x, (enc x).length = k) (h : Win enc k e w v S xs) {ys : List α} (he : xs = ys) (n : Nat) (hn : ys.length = n) :
    ∃ a c, v = .slice a n c ∧ Rd enc k w (.slice a n c) ys := by
  subst he; subst hn
  have hr := win_rd hk h
  obtain ⟨a, c, rfl, _, _⟩ := winC_slice h
  exact ⟨a, c, rfl, hr⟩
theorem rd_new {α : Type} {enc : α → List Value} {k : Nat} (hk : ∀ x, (enc x).length = k) (e : Nat) {w : World} (xs : List α) (b n : Nat) (cs : Array Value) (h : w.heap[b]? = some (.cells cs e (0, 0))) (hc : cs.toList = xs.flatMap enc) (hn : xs.length = n) (hm : n ≤ maxLen) :
    Rd enc k w (.slice (some ⟨b, 0, none⟩) n n) xs := by
  subst hn
  exact win_rd hk (win_new hk e b cs h hc hm)
section
variable {w : World} {k : Int} {v : Value} {l : List Step}
theorem k_at (t : Int) (ps : List Pair) (n : Nat) (hr : Rd Step.cells 4 w v l) (he : atP k l t = (ps, 0)) (hn : ps.length = n) :
    Calls Tryz.prog 6 #[.agg #[.int .i64 k, v], .int .i64 t] w fun e w' => ∃ a c, e = .returned (.tuple #[.slice a n c, .int .i64 0]) ∧ Rd Pair.cells 2 w' (.slice a n c) ps ∧ Below w.heap.size w w' :=
  (at_any k v l t w hr).mono fun e w' ⟨v', h1, h2, h3⟩ => by
    rw [he] at h1 h2
    obtain ⟨a, c, rfl, hrd⟩ := win_out pair_len h2 rfl n hn
    exact ⟨a, c, h1, hrd, h3⟩
theorem k_lives (ps : List Life) (n : Nat) (hr : Rd Step.cells 4 w v l) (he : livesP k l = (ps, 0)) (hn : ps.length = n) :
    Calls Tryz.prog 4 #[.agg #[.int .i64 k, v]] w fun e w' => ∃ a c, e = .returned (.tuple #[.slice a n c, .int .i64 0]) ∧ Rd Life.cells 4 w' (.slice a n c) ps ∧ Below w.heap.size w w' :=
  (rLives_any k v l w hr).mono fun e w' ⟨v', h1, h2, h3⟩ => by
    rw [he] at h1 h2
    obtain ⟨a, c, rfl, hrd⟩ := win_out life_len h2 rfl n hn
    exact ⟨a, c, h1, hrd, h3⟩
theorem k_takes (ps : List Span) (n : Nat) (hr : Rd Step.cells 4 w v l) (he : takesP k l = (ps, 0)) (hn : ps.length = n) :
    Calls Tryz.prog 5 #[.agg #[.int .i64 k, v]] w fun e w' => ∃ a c, e = .returned (.tuple #[.slice a n c, .int .i64 0]) ∧ Rd Span.cells 2 w' (.slice a n c) ps ∧ Below w.heap.size w w' :=
  (rTakes_any k v l w hr).mono fun e w' ⟨v', h1, h2, h3⟩ => by
    rw [he] at h1 h2
    obtain ⟨a, c, rfl, hrd⟩ := win_out span_len h2 rfl n hn
    exact ⟨a, c, h1, hrd, h3⟩
theorem k_insert (s : Step) (ls : List Step) (ds : List Span) (n m : Nat) (er : Int) (hr : Rd Step.cells 4 w v l) (k' : Int) (he : insertP k l s = ((k', ls), ds, er)) (hn : ls.length = n) (hm : ds.length = m) :
    Calls Tryz.prog 25 #[.agg #[.int .i64 k, v], .agg #[.int .i64 s.at_, .int .i64 s.do_, .int .i64 s.key, .int .i64 s.val]] w fun e w' => ∃ a c a' c', e = .returned (.tuple #[.agg #[.int .i64 k', .slice a n c], .slice a' m c', .int .i64 er]) ∧ Rd Step.cells 4 w' (.slice a n c) ls ∧ Rd Span.cells 2 w' (.slice a' m c') ds ∧ Below w.heap.size w w' ∧ (∀ i, some i = (Value.slice a n c).ownBlock → w.heap.size ≤ i) ∧ ∀ i, some i = (Value.slice a' m c').ownBlock → w.heap.size ≤ i :=
  (rInsert_any k v l s w hr).mono fun e w' ⟨v1, v2, h1, h2, h3, h4⟩ => by
    rw [he] at h1 h2 h3
    have o1 := winC_ob h2
    have o2 := winC_ob h3
    obtain ⟨a, c, rfl, hrd⟩ := win_out step_len h2 rfl n hn
    obtain ⟨a', c', rfl, hrd'⟩ := win_out span_len h3 rfl m hm
    exact ⟨a, c, a', c', h1, hrd, hrd', h4, fun i hi => (o1 i hi).1, fun i hi => (o2 i hi).1⟩
theorem k_delete (t : Int) (ls : List Step) (ds : List Span) (n m : Nat) (er : Int) (hr : Rd Step.cells 4 w v l) (k' : Int) (he : deleteP k l t = ((k', ls), ds, er)) (hn : ls.length = n) (hm : ds.length = m) :
    Calls Tryz.prog 27 #[.agg #[.int .i64 k, v], .int .i64 t] w fun e w' => ∃ a c a' c', e = .returned (.tuple #[.agg #[.int .i64 k', .slice a n c], .slice a' m c', .int .i64 er]) ∧ Rd Step.cells 4 w' (.slice a n c) ls ∧ Rd Span.cells 2 w' (.slice a' m c') ds ∧ Below w.heap.size w w' :=
  (rDelete_any k v l t w hr).mono fun e w' ⟨v1, v2, h1, h2, h3, h4⟩ => by
    rw [he] at h1 h2 h3
    obtain ⟨a, c, rfl, hrd⟩ := win_out step_len h2 rfl n hn
    obtain ⟨a', c', rfl, hrd'⟩ := win_out span_len h3 rfl m hm
    exact ⟨a, c, a', c', h1, hrd, hrd', h4⟩
theorem k_slim (t : Int) (ls : List Step) (n : Nat) (hr : Rd Step.cells 4 w v l) (k' : Int) (he : slimP k l t = ((k', ls), 0)) (hn : ls.length = n) :
    Calls Tryz.prog 28 #[.agg #[.int .i64 k, v], .int .i64 t] w fun e w' => ∃ a c, e = .returned (.tuple #[.agg #[.int .i64 k', .slice a n c], .int .i64 0]) ∧ Rd Step.cells 4 w' (.slice a n c) ls ∧ Below w.heap.size w w' :=
  (rSlim_any k v l t w hr).mono fun e w' ⟨v1, h1, h2, h4⟩ => by
    rw [he] at h1 h2
    obtain ⟨a, c, rfl, hrd⟩ := win_out step_len h2 rfl n hn
    exact ⟨a, c, h1, hrd, h4⟩
theorem k_vals (ns : List Int) (ps : List Pair) (n : Nat) (hr : Rd cellI 1 w v ns) (hl : ns.length ≤ 1000) (he : (ns.map fun n => (⟨0, n⟩ : Pair)) = ps) (hn : ps.length = n) :
    Calls Tryz.prog 22 #[v] w fun e w' => ∃ a c, e = .returned (.slice a n c) ∧ Rd Pair.cells 2 w' (.slice a n c) ps ∧ Below w.heap.size w w' :=
  (vals_any v ns w hr hl).mono fun e w' ⟨v', h1, h2, h3⟩ => by
    rw [he] at h2
    obtain ⟨a, c, rfl, hrd⟩ := win_out pair_len h2 rfl n hn
    exact ⟨a, c, h1, hrd, h3⟩
theorem k_line (k : Int) (w : World) : Calls Tryz.prog 20 #[.int .i64 k] w fun e w' => ∃ a c, e = .returned (.agg #[.int .i64 k, .slice a 5 c]) ∧ Rd Step.cells 4 w' (.slice a 5 c) lineS ∧ Below w.heap.size w w' :=
  (line_any k w).mono fun e w' ⟨v', h1, h2, h3⟩ => by
    obtain ⟨a, c, rfl, hrd⟩ := win_out step_len h2 rfl 5 rfl
    exact ⟨a, c, h1, hrd, h3⟩
theorem k_samePairs {v1 v2 : Value} {xs : List Pair} (h1 : Rd Pair.cells 2 w v1 xs) (h2 : Rd Pair.cells 2 w v2 xs) : Calls Tryz.prog 21 #[v1, v2] w fun e w' => e = .returned (.bool true) ∧ Below w.heap.size w w' :=
  (samePairs_any v1 v2 xs xs w h1 h2).mono fun e w' ⟨h, hb⟩ => ⟨by rw [h]; simp, hb⟩
theorem k_sameSpans {v1 v2 : Value} {xs : List Span} (h1 : Rd Span.cells 2 w v1 xs) (h2 : Rd Span.cells 2 w v2 xs) : Calls Tryz.prog 23 #[v1, v2] w fun e w' => e = .returned (.bool true) ∧ Below w.heap.size w w' :=
  (sameSpans_any v1 v2 xs xs w h1 h2).mono fun e w' ⟨h, hb⟩ => ⟨by rw [h]; simp, hb⟩
theorem k_sameLives {v1 v2 : Value} {xs : List Life} (h1 : Rd Life.cells 4 w v1 xs) (h2 : Rd Life.cells 4 w v2 xs) : Calls Tryz.prog 24 #[v1, v2] w fun e w' => e = .returned (.bool true) ∧ Below w.heap.size w w' :=
  (sameLives_any v1 v2 xs xs w h1 h2).mono fun e w' ⟨h, hb⟩ => ⟨by rw [h]; simp, hb⟩
theorem k_same {k : Int} {v1 v2 : Value} {xs : List Step} (h1 : Rd Step.cells 4 w v1 xs) (h2 : Rd Step.cells 4 w v2 xs) : Calls Tryz.prog 29 #[.agg #[.int .i64 k, v1], .agg #[.int .i64 k, v2]] w fun e w' => e = .returned (.bool true) ∧ Below w.heap.size w w' :=
  (same_any k k v1 v2 xs xs w h1 h2).mono fun e w' ⟨h, hb⟩ => ⟨by rw [h]; simp, hb⟩
end
/-! ### the plain answers of the examples -/
def lineX : List Step := [⟨1, 1, 0, 5⟩, ⟨2, 1, 0, 8⟩, ⟨3, 1, 0, 6⟩, ⟨4, 2, 0, 0⟩, ⟨7, 2, 0, 0⟩, ⟨9, 2, 0, 0⟩]
def lineY : List Step := [⟨1, 1, 0, 5⟩, ⟨3, 1, 0, 6⟩, ⟨7, 2, 0, 0⟩, ⟨9, 2, 0, 0⟩]
def lineZ : List Step := [⟨1, 1, 0, 5⟩, ⟨7, 2, 0, 0⟩, ⟨9, 2, 0, 0⟩]
theorem e_at1 : atP 1 lineS 3 = ([⟨0, 5⟩, ⟨0, 6⟩], 0) := by decide
theorem e_at2 : atP 2 lineS 4 = ([⟨0, 6⟩], 0) := by decide
theorem e_lives : livesP 1 lineS = ([⟨1, 7, 0, 5⟩, ⟨3, 4, 0, 6⟩], 0) := by decide
theorem e_takes : takesP 1 lineS = ([⟨3, 4⟩, ⟨1, 7⟩, ⟨-1, 9⟩], 0) := by decide
theorem e_ins : insertP 2 lineS ⟨2, 1, 0, 8⟩ = ((2, lineX), [⟨2, 8⟩], 0) := by decide
theorem e_at3 : atP 2 lineX 4 = ([⟨0, 8⟩, ⟨0, 6⟩], 0) := by decide
theorem e_del : deleteP 1 lineS 4 = ((1, lineY), [⟨4, 8⟩], 0) := by decide
theorem e_slim : slimP 1 lineS 5 = ((1, lineZ), 0) := by decide
end Go.Proofs.YtkoeplbkeboklaaGreat
