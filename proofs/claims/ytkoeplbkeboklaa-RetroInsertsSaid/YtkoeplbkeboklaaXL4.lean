/- The law RetroInserts, walked. (Printed by laws.py.) -/
import Derived.Test.YtkoeplbkeboklaaM8
import Derived.Deep.RegionHeld3
set_option linter.unusedVariables false
set_option linter.unusedSimpArgs false
namespace Go.Proofs.Ytkoeplbkeboklaa
open Go.RowKit
set_option maxHeartbeats 2000000 in
theorem copy2_any (k : Int) (v : Value) (l : List Step) (w : World) (hr : Rd Step.cells 4 w v l) (hl : l.length * 32 ≤ 140737488355328) :
    Calls Try.prog 21 #[.agg #[.int .i64 k, v]] w fun e w' => ∃ v', e = .returned (.agg #[.int .i64 k, v']) ∧ Win Step.cells 4 39 w' v' (fun i => w.heap.size ≤ i) l ∧ Below w.heap.size w w' := by
  obtain ⟨a, c, rfl⟩ : ∃ a c, v = .slice a l.length c := by obtain ⟨_, a, c, rfl, _⟩ := hr; exact ⟨a, c, rfl⟩
  have HR := Lib.hid (rdC_of_rd step_len (by decide) step_one hr)
  clear hr
  go_enter Try.func21, Try.ntmps21
  go_wp2
  refine named_box2 w _ _ _ _ fun W0 hb0 hz0 hx0 hx1 => ?_
  have d0 := cell_blk hx0 0
  have d1 := cell_blk hx0 1
  have d2 := cell_blk hx1 0
  have d3 := cell_blk hx1 1
  have f2 := free_blk hx1 0
  have f3 := free_blk hx1 1
  have HB := Lib.hid (And.intro hb0 hx1)
  clear hx0 hx1 hb0
  set_option maxRecDepth 10000 in
  go_region_law ((first | (refine step_append_rd _ (by rfl) _ _ _ (by rfl) 39 4 32 _ Try.underlying23 info_step rfl (by decide) _ (fun _ => False) 0 [] (by go_simp <;> rfl) _ (by go_simp <;> rfl) (winC_nil _ _ _ _) l.length _ (rdC_below HR.out (HB.out.1.drew)) (by unfold maxLen; omega) (by omega) ?_; intro v2 w2 hwin2 hfr2 hsz2; simp only [Nat.zero_add, List.nil_append] at hwin2; obtain ⟨a2, c2, rfl, hn2, hm2⟩ := winC_slice hwin2; have hb2 : Below W0.heap.size W0 w2 := (Below.refl W0.heap.size W0).drew.trans (below_of_fr hfr2 (Nat.le_refl _) fun i hi => nomatch hi); have g0 := below_cell hb2 d0; have g2 := below_cell hb2 d2; have g3 := below_cell hb2 d3; have k2 := below_frozen hb2 (a := ⟨w.heap.size + 1, 0, none⟩) (by show w.heap.size + 1 < _; omega) f2; have k3 := below_frozen hb2 (a := ⟨w.heap.size + 1, 1, none⟩) (by show w.heap.size + 1 < _; omega) f3) | fail))
  all_goals
    have hb := HB.out.1.trans (hb2.mono HB.out.1.size)
    have hr2 := (hb2.block (w.heap.size + 1) (by omega)).trans HB.out.2
    have hE := line_end (k := k) hb.size hb hr2 (by omega) (show Win Step.cells 4 39 w2 (.slice a2 l.length c2) _ l from hwin2) (fun i hi => by simp [drew_size] at hi; omega)
    have HE := Lib.hid (hE _ rfl)
    clear hwin2 hfr2 hb hr2 hE g0 g2 g3 k2 k3 hb2 d0 d1 d2 d3 f2 f3
    generalize (w2.setCell ⟨w.heap.size + 1, 0, none⟩ (.int .i64 k)).setCell ⟨w.heap.size + 1, 1, none⟩ (.slice a2 l.length c2) = W3 at *
    have g0 := HE.out.1
    have g1 := HE.out.2.1
    go_wp2
    exact bodyPost_ret (v := .agg #[.int .i64 k, .slice a2 l.length c2]) (by simp [results, Try.results21, go_sem, g0, g1]) rfl ⟨_, rfl, HE.out.2.2.1, HE.out.2.2.2⟩

set_option maxRecDepth 100000 in
set_option maxHeartbeats 8000000 in
theorem w_RetroInserts (k : Int) (u : Value) (l : List Step) (s : Step) (w : World) (hr : Rd Step.cells 4 w u l) (hok : SlOk u) (hsize : l.length * 32 ≤ 140737488355328) :
    Calls Try.prog 4 #[.agg #[.int .i64 k, u], .agg #[.int .i64 s.at_, .int .i64 s.do_, .int .i64 s.key, .int .i64 s.val]] w fun e w' => e = .returned (.bool true) ∧ Below w.heap.size w w' := by
  obtain ⟨a, c, rfl⟩ : ∃ a c, u = .slice a l.length c := by obtain ⟨_, a, c, rfl, _⟩ := hr; exact ⟨a, c, rfl⟩
  obtain ⟨k', ls, ds, er, he⟩ : ∃ k' ls ds er, insertP k l s = ((k', ls), ds, er) := ⟨_, _, _, _, rfl⟩
  have E1 := Lib.hid he
  have HOK := Lib.hid hok
  clear he hok
  have HB := Lib.hid (Below.refl w.heap.size w)
  have RS := Lib.hid hr
  clear hr
  go_enter Try.func4, Try.ntmps4
  go_wp2_with fail
  refine named_box2 (G := fun W => Calls _ _ _ W _) w _ _ _ _ fun w2 hb hz hx0 hx1 => ?_
  replace RS := Lib.hid (RS.out.below hb)
  replace HB := Lib.hid (HB.out.trans (hb.mono HB.out.size))
  clear hb
  have c0 : w2.cell? ⟨w.heap.size, 0, none⟩ = some (.int .i64 k) := cell_blk hx0 0
  have c1 : w2.cell? ⟨w.heap.size, 1, none⟩ = some (.slice a l.length c) := cell_blk hx0 1
  have c2 : w2.cell? ⟨w.heap.size + 1, 0, none⟩ = some (.int .i64 s.at_) := cell_blk hx1 0
  have c3 : w2.cell? ⟨w.heap.size + 1, 1, none⟩ = some (.int .i64 s.do_) := cell_blk hx1 1
  have c4 : w2.cell? ⟨w.heap.size + 1, 2, none⟩ = some (.int .i64 s.key) := cell_blk hx1 2
  have c5 : w2.cell? ⟨w.heap.size + 1, 3, none⟩ = some (.int .i64 s.val) := cell_blk hx1 3
  clear hx0 hx1 hz
  refine (copy2_any k _ l _ RS.out hsize).mono ?_
  rintro e w1 ⟨vM, rfl, hwM, hb⟩
  have OL0 := fun i hi => Nat.le_trans HB.out.size (winC_ob hwM i hi).1
  replace c0 := below_cell hb c0
  replace c1 := below_cell hb c1
  replace c2 := below_cell hb c2
  replace c3 := below_cell hb c3
  replace c4 := below_cell hb c4
  replace c5 := below_cell hb c5
  replace RS := Lib.hid (RS.out.below hb)
  replace HB := Lib.hid (HB.out.trans (hb.mono HB.out.size))
  clear hb
  have rm := win_rd step_len hwM
  obtain ⟨aM, cM, rfl, _, _⟩ := winC_slice hwM
  have WM := Lib.hid (winC_mono (winC_block hwM) (T := fun i => some i = (Value.slice aM l.length cM).ownBlock) fun i hi => hi.1)
  have OM := Lib.hid (fun i (hi : some i = (Value.slice aM l.length cM).ownBlock) => (winC_ob hwM i hi).2)
  have OL := Lib.hid OL0
  clear hwM OL0
  have RM := Lib.hid rm
  clear rm
  have e0 := fun o => below_cell ((Below.refl _ _).alloc (Nat.le_refl w1.heap.size) o) c0
  have e1 := fun o => below_cell ((Below.refl _ _).alloc (Nat.le_refl w1.heap.size) o) c1
  have e2 := fun o => below_cell ((Below.refl _ _).alloc (Nat.le_refl w1.heap.size) o) c2
  have e3 := fun o => below_cell ((Below.refl _ _).alloc (Nat.le_refl w1.heap.size) o) c3
  have e4 := fun o => below_cell ((Below.refl _ _).alloc (Nat.le_refl w1.heap.size) o) c4
  have e5 := fun o => below_cell ((Below.refl _ _).alloc (Nat.le_refl w1.heap.size) o) c5
  go_wp2_with fail
  clear e0 e1 e2 e3 e4 e5
  have hXm := Nat.le_refl w1.heap.size
  refine named_box1 (G := fun W => Calls _ _ _ W _) _ _ _ fun w2 hb hz hx => ?_
  replace WM := Lib.hid (winC_move WM.out (fr_of_below (S := fun _ => False) hb) (fun _ _ h => h))
  replace c0 := below_cell hb c0
  replace c1 := below_cell hb c1
  replace c2 := below_cell hb c2
  replace c3 := below_cell hb c3
  replace c4 := below_cell hb c4
  replace c5 := below_cell hb c5
  replace RS := Lib.hid (RS.out.below hb)
  replace RM := Lib.hid (RM.out.below hb)
  replace HB := Lib.hid (HB.out.trans (hb.mono HB.out.size))
  clear hb
  have m0 : w2.cell? ⟨w1.heap.size, 0, none⟩ = some (.int .i64 k) := cell_blk hx 0
  have m1 : w2.cell? ⟨w1.heap.size, 1, none⟩ = some (.slice aM l.length cM) := cell_blk hx 1
  have fm1 := free_blk hx 1
  have hXl : w1.heap.size < w2.heap.size := by omega
  clear hx hz hXm
  generalize w1.heap.size = XM at *
  have OX0 := Lib.hid hXl
  refine (g_insert s k' ls ds er RM.out E1.out).mono ?_
  rintro e w1 ⟨aA, cA, aB, cB, rfl, ra, rb, hb, oa, ob⟩
  have OA := Lib.hid (fun i hi => Nat.lt_of_lt_of_le hXl (oa i hi))
  clear oa ob hXl OX0
  replace WM := Lib.hid (winC_move WM.out (fr_of_below (S := fun _ => False) hb) (fun _ _ h => h))
  replace c0 := below_cell hb c0
  replace c1 := below_cell hb c1
  replace c2 := below_cell hb c2
  replace c3 := below_cell hb c3
  replace c4 := below_cell hb c4
  replace c5 := below_cell hb c5
  replace m0 := below_cell hb m0
  replace m1 := below_cell hb m1
  replace RS := Lib.hid (RS.out.below hb)
  replace RM := Lib.hid (RM.out.below hb)
  replace HB := Lib.hid (HB.out.trans (hb.mono HB.out.size))
  clear hb
  have RA := Lib.hid ra
  clear ra
  have RB := Lib.hid rb
  clear rb
  have e0 := fun o => below_cell ((Below.refl _ _).alloc (Nat.le_refl w1.heap.size) o) c0
  have e1 := fun o => below_cell ((Below.refl _ _).alloc (Nat.le_refl w1.heap.size) o) c1
  have e2 := fun o => below_cell ((Below.refl _ _).alloc (Nat.le_refl w1.heap.size) o) c2
  have e3 := fun o => below_cell ((Below.refl _ _).alloc (Nat.le_refl w1.heap.size) o) c3
  have e4 := fun o => below_cell ((Below.refl _ _).alloc (Nat.le_refl w1.heap.size) o) c4
  have e5 := fun o => below_cell ((Below.refl _ _).alloc (Nat.le_refl w1.heap.size) o) c5
  go_wp2_with fail
  clear e0 e1 e2 e3 e4 e5
  have hXn : XM < w1.heap.size := World.block_lt_of_cell? w1 _ m0
  refine named_box1 (G := fun W => Calls _ _ _ W _) _ _ _ fun w2 hb hz hx => ?_
  replace WM := Lib.hid (winC_move WM.out (fr_of_below (S := fun _ => False) hb) (fun _ _ h => h))
  replace c0 := below_cell hb c0
  replace c1 := below_cell hb c1
  replace c2 := below_cell hb c2
  replace c3 := below_cell hb c3
  replace c4 := below_cell hb c4
  replace c5 := below_cell hb c5
  replace m0 := below_cell hb m0
  replace m1 := below_cell hb m1
  replace RS := Lib.hid (RS.out.below hb)
  replace RM := Lib.hid (RM.out.below hb)
  replace RA := Lib.hid (RA.out.below hb)
  replace RB := Lib.hid (RB.out.below hb)
  replace HB := Lib.hid (HB.out.trans (hb.mono HB.out.size))
  clear hb
  have d0 : w2.cell? ⟨w1.heap.size, 0, none⟩ = some (.int .i64 k') := cell_blk hx 0
  have d1 : w2.cell? ⟨w1.heap.size, 1, none⟩ = some (.slice aA ls.length cA) := cell_blk hx 1
  have hXp : w1.heap.size < w2.heap.size := by omega
  clear hx hz
  generalize w1.heap.size = XA at *
  refine (g_refInsert s HOK.out k' ls ds er RS.out E1.out).mono ?_
  rintro e w1 ⟨aC, cC, aD, cD, rfl, rc, rd, hb, oc, od⟩
  have OC := Lib.hid (fun i hi => Nat.lt_trans hXn (Nat.lt_of_lt_of_le hXp (oc i hi)))
  clear oc od hXp
  replace WM := Lib.hid (winC_move WM.out (fr_of_below (S := fun _ => False) hb) (fun _ _ h => h))
  replace c0 := below_cell hb c0
  replace c1 := below_cell hb c1
  replace c2 := below_cell hb c2
  replace c3 := below_cell hb c3
  replace c4 := below_cell hb c4
  replace c5 := below_cell hb c5
  replace m0 := below_cell hb m0
  replace m1 := below_cell hb m1
  replace d0 := below_cell hb d0
  replace d1 := below_cell hb d1
  replace RS := Lib.hid (RS.out.below hb)
  replace RM := Lib.hid (RM.out.below hb)
  replace RA := Lib.hid (RA.out.below hb)
  replace RB := Lib.hid (RB.out.below hb)
  replace HB := Lib.hid (HB.out.trans (hb.mono HB.out.size))
  clear hb
  have RC := Lib.hid rc
  clear rc
  have RD := Lib.hid rd
  clear rd
  have e0 := fun o => below_cell ((Below.refl _ _).alloc (Nat.le_refl w1.heap.size) o) d0
  have e1 := fun o => below_cell ((Below.refl _ _).alloc (Nat.le_refl w1.heap.size) o) d1
  have e2 := fun o => below_cell ((Below.refl _ _).alloc (Nat.le_refl w1.heap.size) o) m0
  have e3 := fun o => below_cell ((Below.refl _ _).alloc (Nat.le_refl w1.heap.size) o) m1
  have e4 := fun o => below_cell ((Below.refl _ _).alloc (Nat.le_refl w1.heap.size) o) c0
  have e5 := fun o => below_cell ((Below.refl _ _).alloc (Nat.le_refl w1.heap.size) o) c1
  go_wp2_with fail
  clear e0 e1 e2 e3 e4 e5
  have hXo : XA < w1.heap.size := World.block_lt_of_cell? w1 _ d0
  refine named_box1 (G := fun W => Calls _ _ _ W _) _ _ _ fun w2 hb hz hx => ?_
  replace WM := Lib.hid (winC_move WM.out (fr_of_below (S := fun _ => False) hb) (fun _ _ h => h))
  replace c0 := below_cell hb c0
  replace c1 := below_cell hb c1
  replace c2 := below_cell hb c2
  replace c3 := below_cell hb c3
  replace c4 := below_cell hb c4
  replace c5 := below_cell hb c5
  replace m0 := below_cell hb m0
  replace m1 := below_cell hb m1
  replace d0 := below_cell hb d0
  replace d1 := below_cell hb d1
  replace RS := Lib.hid (RS.out.below hb)
  replace RM := Lib.hid (RM.out.below hb)
  replace RA := Lib.hid (RA.out.below hb)
  replace RB := Lib.hid (RB.out.below hb)
  replace RC := Lib.hid (RC.out.below hb)
  replace RD := Lib.hid (RD.out.below hb)
  replace HB := Lib.hid (HB.out.trans (hb.mono HB.out.size))
  clear hb
  have y0 : w2.cell? ⟨w1.heap.size, 0, none⟩ = some (.int .i64 k') := cell_blk hx 0
  have y1 : w2.cell? ⟨w1.heap.size, 1, none⟩ = some (.slice aC ls.length cC) := cell_blk hx 1
  clear hx hz
  generalize w1.heap.size = XC at *
  refine (k_same RA.out RC.out).mono ?_
  rintro e w1 ⟨rfl, hb⟩
  replace WM := Lib.hid (winC_move WM.out (fr_of_below (S := fun _ => False) hb) (fun _ _ h => h))
  replace c0 := below_cell hb c0
  replace c1 := below_cell hb c1
  replace c2 := below_cell hb c2
  replace c3 := below_cell hb c3
  replace c4 := below_cell hb c4
  replace c5 := below_cell hb c5
  replace m0 := below_cell hb m0
  replace m1 := below_cell hb m1
  replace d0 := below_cell hb d0
  replace d1 := below_cell hb d1
  replace y0 := below_cell hb y0
  replace y1 := below_cell hb y1
  replace RS := Lib.hid (RS.out.below hb)
  replace RM := Lib.hid (RM.out.below hb)
  replace RA := Lib.hid (RA.out.below hb)
  replace RB := Lib.hid (RB.out.below hb)
  replace RC := Lib.hid (RC.out.below hb)
  replace RD := Lib.hid (RD.out.below hb)
  replace HB := Lib.hid (HB.out.trans (hb.mono HB.out.size))
  clear hb
  go_wp2_with fail
  refine (k_sameSpans RB.out RD.out).mono ?_
  rintro e w1 ⟨rfl, hb⟩
  replace WM := Lib.hid (winC_move WM.out (fr_of_below (S := fun _ => False) hb) (fun _ _ h => h))
  replace c0 := below_cell hb c0
  replace c1 := below_cell hb c1
  replace c2 := below_cell hb c2
  replace c3 := below_cell hb c3
  replace c4 := below_cell hb c4
  replace c5 := below_cell hb c5
  replace m0 := below_cell hb m0
  replace m1 := below_cell hb m1
  replace d0 := below_cell hb d0
  replace d1 := below_cell hb d1
  replace y0 := below_cell hb y0
  replace y1 := below_cell hb y1
  replace RS := Lib.hid (RS.out.below hb)
  replace RM := Lib.hid (RM.out.below hb)
  replace RA := Lib.hid (RA.out.below hb)
  replace RB := Lib.hid (RB.out.below hb)
  replace RC := Lib.hid (RC.out.below hb)
  replace RD := Lib.hid (RD.out.below hb)
  replace HB := Lib.hid (HB.out.trans (hb.mono HB.out.size))
  clear hb
  go_wp2_with fail
  refine (k_same RM.out RS.out).mono ?_
  rintro e w1 ⟨rfl, hb⟩
  replace WM := Lib.hid (winC_move WM.out (fr_of_below (S := fun _ => False) hb) (fun _ _ h => h))
  replace c0 := below_cell hb c0
  replace c1 := below_cell hb c1
  replace c2 := below_cell hb c2
  replace c3 := below_cell hb c3
  replace c4 := below_cell hb c4
  replace c5 := below_cell hb c5
  replace m0 := below_cell hb m0
  replace m1 := below_cell hb m1
  replace d0 := below_cell hb d0
  replace d1 := below_cell hb d1
  replace y0 := below_cell hb y0
  replace y1 := below_cell hb y1
  replace RS := Lib.hid (RS.out.below hb)
  replace RM := Lib.hid (RM.out.below hb)
  replace RA := Lib.hid (RA.out.below hb)
  replace RB := Lib.hid (RB.out.below hb)
  replace RC := Lib.hid (RC.out.below hb)
  replace RD := Lib.hid (RD.out.below hb)
  replace HB := Lib.hid (HB.out.trans (hb.mono HB.out.size))
  clear hb
  have hl63 : l.length ≤ 9223372036854775807 := RM.out.1
  have HL0 := Lib.hid (And.intro WM.out (And.intro RA.out (And.intro RC.out HB.out)))
  clear RS RM RB RD c0 c1 c2 c3 c4 c5 E1 HOK
  go_wp2
  go_loopw [12] (fun i W => ∃ (n : Nat) (cs : List Value), i = .int .i64 n ∧ n ≤ l.length ∧ WinC 4 39 W (.slice aM l.length cM) (fun i => some i = (Value.slice aM l.length cM).ownBlock) l.length cs ∧ Fr (fun j => some j = (Value.slice aM l.length cM).ownBlock) w1 W) (fun i _ => l.length - (intOf i).toNat)
  case atStart => exact ⟨0, _, rfl, by omega, HL0.out.1, fr_refl _ _⟩
  case round =>
    obtain ⟨n, cs, rfl, hnl, hw, hF⟩ := hrel
    have q0 := fr_cell hF m0 (fun h => by have := OM.out _ h; dsimp only at this; omega)
    have q1 := fr_cell hF m1 (fun h => by have := OM.out _ h; dsimp only at this; omega)
    by_cases hlt : n < l.length
    · obtain ⟨b, off, rfl⟩ : ∃ b off, aM = some ⟨b, off, none⟩ := by
        rcases hw.2 with ⟨hv, h0⟩ | ⟨g, off, cap, cur, hv, _⟩
        · omega
        · injection hv with h1; exact ⟨g, off, h1⟩
      have hl4 : cs.length = l.length * 4 := hw.1
      have hj : ∀ j, j < 4 → n * 4 + j < l.length * 4 := fun j hj => by omega
      have cell : ∀ j, j < 4 → ∃ v, wr.cell? ⟨b, off + n * 4 + j, none⟩ = some v := fun j h => by
        have := winC_cells hw (n * 4 + j) (cs[n * 4 + j]'(by rw [hl4]; exact hj j h)) (List.getElem?_eq_getElem _)
        exact ⟨_, by rw [Nat.add_assoc]; exact this⟩
      obtain ⟨x0, h0⟩ := cell 0 (by omega)
      obtain ⟨x1, h1⟩ := cell 1 (by omega)
      obtain ⟨x2, h2⟩ := cell 2 (by omega)
      obtain ⟨x3, h3⟩ := cell 3 (by omega)
      rw [Nat.add_zero] at h0
      have fz := fun j (h : j < 4) => (winC_set hw (hj j h) (.int .i64 0)).2.2
      have f0 := fz 0 (by omega)
      have f1 := fz 1 (by omega)
      have f2 := fz 2 (by omega)
      have f3 := fz 3 (by omega)
      rw [Nat.add_zero] at f0
      rw [← Nat.add_assoc] at f1 f2 f3
      have s1 := (winC_set hw (hj 0 (by omega)) (.int .i64 0)).1
      have s2 := (winC_set s1 (hj 1 (by omega)) (.int .i64 0)).1
      have s3 := (winC_set s2 (hj 2 (by omega)) (.int .i64 0)).1
      have s4 := (winC_set s3 (hj 3 (by omega)) (.int .i64 0)).1
      rw [Nat.add_zero] at s4
      have hFa : Fr (fun j => some j = (Value.slice (some ⟨b, off, none⟩) l.length cM).ownBlock) wr ((((wr.setCell ⟨b, off + n * 4, none⟩ (.int .i64 0)).setCell ⟨b, off + (n * 4 + 1), none⟩ (.int .i64 0)).setCell ⟨b, off + (n * 4 + 2), none⟩ (.int .i64 0)).setCell ⟨b, off + (n * 4 + 3), none⟩ (.int .i64 0)) :=
        fr_mono (fr_trans (fr_trans (fr_trans (fr_setCell wr ⟨b, off + n * 4, none⟩ (.int .i64 0)) (fr_setCell _ ⟨b, off + (n * 4 + 1), none⟩ (.int .i64 0)) fun _ _ h => h) (fr_setCell _ ⟨b, off + (n * 4 + 2), none⟩ (.int .i64 0)) fun _ _ h => h) (fr_setCell _ ⟨b, off + (n * 4 + 3), none⟩ (.int .i64 0)) fun _ _ h => h) fun i h => by have h2 : i = b := h; rw [h2]; rfl
      rw [← Nat.add_assoc, ← Nat.add_assoc, ← Nat.add_assoc] at s4 hFa
      have HS := Lib.hid (And.intro s4 (And.intro hFa hF))
      clear hw hF cell fz s1 s2 s3 s4 hFa hj hl4
      go_wp2
      go_roundw
      case rel => exact ⟨n + 1, _, by go_num, by omega, HS.out.1, fr_trans HS.out.2.2 HS.out.2.1 fun _ _ h => h⟩
      case measure => simp [intOf]; omega
    · obtain rfl : n = l.length := by omega
      have p0 := fr_cell hF d0 (fun h => by have := OM.out _ h; dsimp only at this; omega)
      have p1 := fr_cell hF d1 (fun h => by have := OM.out _ h; dsimp only at this; omega)
      have p2 := fr_cell hF y0 (fun h => by have := OM.out _ h; dsimp only at this; have := World.block_lt_of_cell? w1 _ y0; omega)
      have p3 := fr_cell hF y1 (fun h => by have := OM.out _ h; dsimp only at this; omega)
      have RA2 := Lib.hid (rd_move HL0.out.2.1 hF fun i hi h => by have h1 := OM.out i h; have h2 := OA.out i hi; omega)
      have RC2 := Lib.hid (rd_move HL0.out.2.2.1 hF fun i hi h => by have h1 := OM.out i h; have h2 := OC.out i hi; omega)
      have HB2 := Lib.hid hF
      clear hw hF
      go_wp2_with fail
      refine (k_same RA2.out RC2.out).mono ?_
      rintro e w2 ⟨rfl, hb⟩
      go_wp2_with fail
      refine (known_any _).mono ?_
      rintro e w3 ⟨rfl, hb3⟩
      have HE := Lib.hid (((HL0.out.2.2.2).trans (below_of_fr HB2.out HL0.out.2.2.2.size fun i hi => OL.out i hi)).trans ((hb.trans (hb3.mono hb.size)).mono (Nat.le_trans HL0.out.2.2.2.size HB2.out.size)))
      go_wp2
      go_ret
      exact ⟨rfl, HE.out⟩
end Go.Proofs.Ytkoeplbkeboklaa
