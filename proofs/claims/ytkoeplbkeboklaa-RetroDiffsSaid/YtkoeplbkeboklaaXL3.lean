/- The laws RetroDeletes, RetroSlims, RetroDiffs, RetroAts, walked. (Printed by laws.py.) -/
import Derived.Test.YtkoeplbkeboklaaM8
import Derived.Deep.RegionHeld3
set_option linter.unusedVariables false
set_option linter.unusedSimpArgs false
namespace Go.Proofs.Ytkoeplbkeboklaa
open Go.RowKit
set_option maxRecDepth 100000 in
set_option maxHeartbeats 8000000 in
theorem w_RetroDeletes (k : Int) (u : Value) (l : List Step) (t : Int) (w : World) (hr : Rd Step.cells 4 w u l) (hok : SlOk u) :
    Calls Try.prog 5 #[.agg #[.int .i64 k, u], .int .i64 t] w fun e w' => e = .returned (.bool true) ∧ Below w.heap.size w w' := by
  obtain ⟨a, c, rfl⟩ : ∃ a c, u = .slice a l.length c := by obtain ⟨_, a, c, rfl, _⟩ := hr; exact ⟨a, c, rfl⟩
  obtain ⟨k', ls, ds, er, he⟩ : ∃ k' ls ds er, deleteP k l t = ((k', ls), ds, er) := ⟨_, _, _, _, rfl⟩
  have E1 := Lib.hid he
  have HOK := Lib.hid hok
  clear he hok
  have HB := Lib.hid (Below.refl w.heap.size w)
  have RS := Lib.hid hr
  clear hr
  go_enter Try.func5, Try.ntmps5
  go_wp2_with fail
  refine named_box1 (G := fun W => Calls _ _ _ W _) _ _ _ fun w2 hb hz hx => ?_
  replace RS := Lib.hid (RS.out.below hb)
  replace HB := Lib.hid (HB.out.trans (hb.mono HB.out.size))
  clear hb
  have c0 : w2.cell? ⟨w.heap.size, 0, none⟩ = some (.int .i64 k) := cell_blk hx 0
  have c1 : w2.cell? ⟨w.heap.size, 1, none⟩ = some (.slice a l.length c) := cell_blk hx 1
  clear hx hz
  refine (g_delete t k' ls ds er RS.out E1.out).mono ?_
  rintro e w1 ⟨aA, cA, aB, cB, rfl, ra, rb, hb, _, _⟩
  replace c0 := below_cell hb c0
  replace c1 := below_cell hb c1
  replace RS := Lib.hid (RS.out.below hb)
  replace HB := Lib.hid (HB.out.trans (hb.mono HB.out.size))
  clear hb
  have RA := Lib.hid ra
  clear ra
  have RB := Lib.hid rb
  clear rb
  have e0 := fun o => below_cell ((Below.refl _ _).alloc (Nat.le_refl w1.heap.size) o) c0
  have e1 := fun o => below_cell ((Below.refl _ _).alloc (Nat.le_refl w1.heap.size) o) c1
  go_wp2_with fail
  clear e0 e1
  have hX : w.heap.size < w1.heap.size := World.block_lt_of_cell? w1 _ c0
  have X0 := w1.heap.size
  refine named_box1 (G := fun W => Calls _ _ _ W _) _ _ _ fun w2 hb hz hx => ?_
  replace c0 := below_cell hb c0
  replace c1 := below_cell hb c1
  replace RS := Lib.hid (RS.out.below hb)
  replace RA := Lib.hid (RA.out.below hb)
  replace RB := Lib.hid (RB.out.below hb)
  replace HB := Lib.hid (HB.out.trans (hb.mono HB.out.size))
  clear hb
  have d0 : w2.cell? ⟨w1.heap.size, 0, none⟩ = some (.int .i64 k') := cell_blk hx 0
  have d1 : w2.cell? ⟨w1.heap.size, 1, none⟩ = some (.slice aA ls.length cA) := cell_blk hx 1
  clear hx hz X0
  generalize w1.heap.size = X at *
  refine (g_refDelete t HOK.out k' ls ds er RS.out E1.out).mono ?_
  rintro e w1 ⟨aC, cC, aD, cD, rfl, rc, rd, hb, _, _⟩
  replace c0 := below_cell hb c0
  replace c1 := below_cell hb c1
  replace d0 := below_cell hb d0
  replace d1 := below_cell hb d1
  replace RS := Lib.hid (RS.out.below hb)
  replace RA := Lib.hid (RA.out.below hb)
  replace RB := Lib.hid (RB.out.below hb)
  replace HB := Lib.hid (HB.out.trans (hb.mono HB.out.size))
  clear hb
  have RC := Lib.hid rc
  clear rc
  have RD := Lib.hid rd
  clear rd
  have e0 := fun o => below_cell ((Below.refl _ _).alloc (Nat.le_refl w1.heap.size) o) d0
  have e1 := fun o => below_cell ((Below.refl _ _).alloc (Nat.le_refl w1.heap.size) o) d1
  go_wp2_with fail
  clear e0 e1
  refine named_box1 (G := fun W => Calls _ _ _ W _) _ _ _ fun w2 hb hz hx => ?_
  replace c0 := below_cell hb c0
  replace c1 := below_cell hb c1
  replace d0 := below_cell hb d0
  replace d1 := below_cell hb d1
  replace RS := Lib.hid (RS.out.below hb)
  replace RA := Lib.hid (RA.out.below hb)
  replace RB := Lib.hid (RB.out.below hb)
  replace RC := Lib.hid (RC.out.below hb)
  replace RD := Lib.hid (RD.out.below hb)
  replace HB := Lib.hid (HB.out.trans (hb.mono HB.out.size))
  clear hb
  clear hx hz
  refine (k_same RA.out RC.out).mono ?_
  rintro e w1 ⟨rfl, hb⟩
  replace c0 := below_cell hb c0
  replace c1 := below_cell hb c1
  replace d0 := below_cell hb d0
  replace d1 := below_cell hb d1
  replace RS := Lib.hid (RS.out.below hb)
  replace RA := Lib.hid (RA.out.below hb)
  replace RB := Lib.hid (RB.out.below hb)
  replace RC := Lib.hid (RC.out.below hb)
  replace RD := Lib.hid (RD.out.below hb)
  replace HB := Lib.hid (HB.out.trans (hb.mono HB.out.size))
  clear hb
  go_wp2_with fail
  refine (k_sameSpans RB.out RD.out).mono ?_
  rintro e w1 ⟨rfl, hb⟩
  replace c0 := below_cell hb c0
  replace c1 := below_cell hb c1
  replace d0 := below_cell hb d0
  replace d1 := below_cell hb d1
  replace RS := Lib.hid (RS.out.below hb)
  replace RA := Lib.hid (RA.out.below hb)
  replace RB := Lib.hid (RB.out.below hb)
  replace RC := Lib.hid (RC.out.below hb)
  replace RD := Lib.hid (RD.out.below hb)
  replace HB := Lib.hid (HB.out.trans (hb.mono HB.out.size))
  clear hb
  go_wp2_with fail
  refine (known_any _).mono ?_
  rintro e w1 ⟨rfl, hb⟩
  replace c0 := below_cell hb c0
  replace c1 := below_cell hb c1
  replace d0 := below_cell hb d0
  replace d1 := below_cell hb d1
  replace RS := Lib.hid (RS.out.below hb)
  replace RA := Lib.hid (RA.out.below hb)
  replace RB := Lib.hid (RB.out.below hb)
  replace RC := Lib.hid (RC.out.below hb)
  replace RD := Lib.hid (RD.out.below hb)
  replace HB := Lib.hid (HB.out.trans (hb.mono HB.out.size))
  clear hb
  go_wp2
  go_ret
  exact ⟨rfl, HB.out⟩
set_option maxRecDepth 100000 in
set_option maxHeartbeats 8000000 in
theorem w_RetroSlims (k : Int) (u : Value) (l : List Step) (t : Int) (w : World) (hr : Rd Step.cells 4 w u l) :
    Calls Try.prog 6 #[.agg #[.int .i64 k, u], .int .i64 t] w fun e w' => e = .returned (.bool true) ∧ Below w.heap.size w w' := by
  obtain ⟨a, c, rfl⟩ : ∃ a c, u = .slice a l.length c := by obtain ⟨_, a, c, rfl, _⟩ := hr; exact ⟨a, c, rfl⟩
  obtain ⟨k', ls, er, he⟩ : ∃ k' ls er, slimP k l t = ((k', ls), er) := ⟨_, _, _, rfl⟩
  have E1 := Lib.hid he
  clear he
  have HB := Lib.hid (Below.refl w.heap.size w)
  have RS := Lib.hid hr
  clear hr
  go_enter Try.func6, Try.ntmps6
  go_wp2_with fail
  refine named_box1 (G := fun W => Calls _ _ _ W _) _ _ _ fun w2 hb hz hx => ?_
  replace RS := Lib.hid (RS.out.below hb)
  replace HB := Lib.hid (HB.out.trans (hb.mono HB.out.size))
  clear hb
  have c0 : w2.cell? ⟨w.heap.size, 0, none⟩ = some (.int .i64 k) := cell_blk hx 0
  have c1 : w2.cell? ⟨w.heap.size, 1, none⟩ = some (.slice a l.length c) := cell_blk hx 1
  clear hx hz
  refine (g_slim t k' ls er RS.out E1.out).mono ?_
  rintro e w1 ⟨aA, cA, rfl, ra, hb, _⟩
  replace c0 := below_cell hb c0
  replace c1 := below_cell hb c1
  replace RS := Lib.hid (RS.out.below hb)
  replace HB := Lib.hid (HB.out.trans (hb.mono HB.out.size))
  clear hb
  have RA := Lib.hid ra
  clear ra
  have e0 := fun o => below_cell ((Below.refl _ _).alloc (Nat.le_refl w1.heap.size) o) c0
  have e1 := fun o => below_cell ((Below.refl _ _).alloc (Nat.le_refl w1.heap.size) o) c1
  go_wp2_with fail
  clear e0 e1
  refine named_box1 (G := fun W => Calls _ _ _ W _) _ _ _ fun w2 hb hz hx => ?_
  replace c0 := below_cell hb c0
  replace c1 := below_cell hb c1
  replace RS := Lib.hid (RS.out.below hb)
  replace RA := Lib.hid (RA.out.below hb)
  replace HB := Lib.hid (HB.out.trans (hb.mono HB.out.size))
  clear hb
  have d0 : w2.cell? ⟨w1.heap.size, 0, none⟩ = some (.int .i64 k') := cell_blk hx 0
  have d1 : w2.cell? ⟨w1.heap.size, 1, none⟩ = some (.slice aA ls.length cA) := cell_blk hx 1
  clear hx hz
  generalize w1.heap.size = X at *
  refine (g_refSlim t k' ls er RS.out E1.out).mono ?_
  rintro e w1 ⟨aC, cC, rfl, rc, hb, _⟩
  replace c0 := below_cell hb c0
  replace c1 := below_cell hb c1
  replace d0 := below_cell hb d0
  replace d1 := below_cell hb d1
  replace RS := Lib.hid (RS.out.below hb)
  replace RA := Lib.hid (RA.out.below hb)
  replace HB := Lib.hid (HB.out.trans (hb.mono HB.out.size))
  clear hb
  have RC := Lib.hid rc
  clear rc
  have e0 := fun o => below_cell ((Below.refl _ _).alloc (Nat.le_refl w1.heap.size) o) d0
  have e1 := fun o => below_cell ((Below.refl _ _).alloc (Nat.le_refl w1.heap.size) o) d1
  go_wp2_with fail
  clear e0 e1
  refine named_box1 (G := fun W => Calls _ _ _ W _) _ _ _ fun w2 hb hz hx => ?_
  replace c0 := below_cell hb c0
  replace c1 := below_cell hb c1
  replace d0 := below_cell hb d0
  replace d1 := below_cell hb d1
  replace RS := Lib.hid (RS.out.below hb)
  replace RA := Lib.hid (RA.out.below hb)
  replace RC := Lib.hid (RC.out.below hb)
  replace HB := Lib.hid (HB.out.trans (hb.mono HB.out.size))
  clear hb
  clear hx hz
  refine (k_same RA.out RC.out).mono ?_
  rintro e w1 ⟨rfl, hb⟩
  replace c0 := below_cell hb c0
  replace c1 := below_cell hb c1
  replace d0 := below_cell hb d0
  replace d1 := below_cell hb d1
  replace RS := Lib.hid (RS.out.below hb)
  replace RA := Lib.hid (RA.out.below hb)
  replace RC := Lib.hid (RC.out.below hb)
  replace HB := Lib.hid (HB.out.trans (hb.mono HB.out.size))
  clear hb
  go_wp2_with fail
  refine (known_any _).mono ?_
  rintro e w1 ⟨rfl, hb⟩
  replace c0 := below_cell hb c0
  replace c1 := below_cell hb c1
  replace d0 := below_cell hb d0
  replace d1 := below_cell hb d1
  replace RS := Lib.hid (RS.out.below hb)
  replace RA := Lib.hid (RA.out.below hb)
  replace RC := Lib.hid (RC.out.below hb)
  replace HB := Lib.hid (HB.out.trans (hb.mono HB.out.size))
  clear hb
  go_wp2
  go_ret
  exact ⟨rfl, HB.out⟩
set_option maxRecDepth 100000 in
set_option maxHeartbeats 8000000 in
theorem w_RetroDiffs (k : Int) (u : Value) (l : List Step) (k2 : Int) (u2 : Value) (l2 : List Step) (w : World) (hr : Rd Step.cells 4 w u l) (hr2 : Rd Step.cells 4 w u2 l2) :
    Calls Try.prog 8 #[.agg #[.int .i64 k, u], .agg #[.int .i64 k2, u2]] w fun e w' => e = .returned (.bool true) ∧ Below w.heap.size w w' := by
  obtain ⟨a, c, rfl⟩ : ∃ a c, u = .slice a l.length c := by obtain ⟨_, a, c, rfl, _⟩ := hr; exact ⟨a, c, rfl⟩
  obtain ⟨a2, c2', rfl⟩ : ∃ a c, u2 = .slice a l2.length c := by obtain ⟨_, a, c, rfl, _⟩ := hr2; exact ⟨a, c, rfl⟩
  obtain ⟨ds, er, he⟩ : ∃ ds er, diffP k l k2 l2 = (ds, er) := ⟨_, _, rfl⟩
  have E1 := Lib.hid he
  clear he
  have HB := Lib.hid (Below.refl w.heap.size w)
  have RS := Lib.hid hr
  clear hr
  have RQ := Lib.hid hr2
  clear hr2
  go_enter Try.func8, Try.ntmps8
  go_wp2_with fail
  refine named_box2 (G := fun W => Calls _ _ _ W _) w _ _ _ _ fun w2 hb hz hx0 hx1 => ?_
  replace RS := Lib.hid (RS.out.below hb)
  replace RQ := Lib.hid (RQ.out.below hb)
  replace HB := Lib.hid (HB.out.trans (hb.mono HB.out.size))
  clear hb
  have c0 : w2.cell? ⟨w.heap.size, 0, none⟩ = some (.int .i64 k) := cell_blk hx0 0
  have c1 : w2.cell? ⟨w.heap.size, 1, none⟩ = some (.slice a l.length c) := cell_blk hx0 1
  have c2 : w2.cell? ⟨w.heap.size + 1, 0, none⟩ = some (.int .i64 k2) := cell_blk hx1 0
  have c3 : w2.cell? ⟨w.heap.size + 1, 1, none⟩ = some (.slice a2 l2.length c2') := cell_blk hx1 1
  clear hx0 hx1 hz
  refine (g_diff ds er RS.out RQ.out E1.out).mono ?_
  rintro e w1 ⟨aA, cA, rfl, ra, hb⟩
  replace c0 := below_cell hb c0
  replace c1 := below_cell hb c1
  replace c2 := below_cell hb c2
  replace c3 := below_cell hb c3
  replace RS := Lib.hid (RS.out.below hb)
  replace RQ := Lib.hid (RQ.out.below hb)
  replace HB := Lib.hid (HB.out.trans (hb.mono HB.out.size))
  clear hb
  have RA := Lib.hid ra
  clear ra
  go_wp2_with fail
  refine (g_refDiff ds er RS.out RQ.out E1.out).mono ?_
  rintro e w1 ⟨aB, cB, rfl, rb, hb⟩
  replace c0 := below_cell hb c0
  replace c1 := below_cell hb c1
  replace c2 := below_cell hb c2
  replace c3 := below_cell hb c3
  replace RS := Lib.hid (RS.out.below hb)
  replace RQ := Lib.hid (RQ.out.below hb)
  replace RA := Lib.hid (RA.out.below hb)
  replace HB := Lib.hid (HB.out.trans (hb.mono HB.out.size))
  clear hb
  have RB := Lib.hid rb
  clear rb
  go_wp2_with fail
  refine (k_sameSpans RA.out RB.out).mono ?_
  rintro e w1 ⟨rfl, hb⟩
  replace c0 := below_cell hb c0
  replace c1 := below_cell hb c1
  replace c2 := below_cell hb c2
  replace c3 := below_cell hb c3
  replace RS := Lib.hid (RS.out.below hb)
  replace RQ := Lib.hid (RQ.out.below hb)
  replace RA := Lib.hid (RA.out.below hb)
  replace RB := Lib.hid (RB.out.below hb)
  replace HB := Lib.hid (HB.out.trans (hb.mono HB.out.size))
  clear hb
  go_wp2_with fail
  refine (known_any _).mono ?_
  rintro e w1 ⟨rfl, hb⟩
  replace c0 := below_cell hb c0
  replace c1 := below_cell hb c1
  replace c2 := below_cell hb c2
  replace c3 := below_cell hb c3
  replace RS := Lib.hid (RS.out.below hb)
  replace RQ := Lib.hid (RQ.out.below hb)
  replace RA := Lib.hid (RA.out.below hb)
  replace RB := Lib.hid (RB.out.below hb)
  replace HB := Lib.hid (HB.out.trans (hb.mono HB.out.size))
  clear hb
  go_wp2
  go_ret
  exact ⟨rfl, HB.out⟩
set_option maxRecDepth 100000 in
set_option maxHeartbeats 8000000 in
theorem w_RetroAts (k : Int) (u : Value) (l : List Step) (t : Int) (w : World) (hr : Rd Step.cells 4 w u l) :
    Calls Try.prog 7 #[.agg #[.int .i64 k, u], .int .i64 t] w fun e w' => e = .returned (.bool true) ∧ Below w.heap.size w w' := by
  obtain ⟨a, c, rfl⟩ : ∃ a c, u = .slice a l.length c := by obtain ⟨_, a, c, rfl, _⟩ := hr; exact ⟨a, c, rfl⟩
  obtain ⟨ps, er, he⟩ : ∃ ps er, atP k l t = (ps, er) := ⟨_, _, rfl⟩
  have E1 := Lib.hid he
  clear he
  have HB := Lib.hid (Below.refl w.heap.size w)
  have RS := Lib.hid hr
  clear hr
  go_enter Try.func7, Try.ntmps7
  go_wp2_with fail
  refine named_box1 (G := fun W => Calls _ _ _ W _) _ _ _ fun w2 hb hz hx => ?_
  replace RS := Lib.hid (RS.out.below hb)
  replace HB := Lib.hid (HB.out.trans (hb.mono HB.out.size))
  clear hb
  have c0 : w2.cell? ⟨w.heap.size, 0, none⟩ = some (.int .i64 k) := cell_blk hx 0
  have c1 : w2.cell? ⟨w.heap.size, 1, none⟩ = some (.slice a l.length c) := cell_blk hx 1
  clear hx hz
  refine (g_at t ps er RS.out E1.out).mono ?_
  rintro e w1 ⟨aA, cA, rfl, ra, hb⟩
  replace c0 := below_cell hb c0
  replace c1 := below_cell hb c1
  replace RS := Lib.hid (RS.out.below hb)
  replace HB := Lib.hid (HB.out.trans (hb.mono HB.out.size))
  clear hb
  have RA := Lib.hid ra
  clear ra
  go_wp2_with fail
  refine (g_refAt t ps er RS.out E1.out).mono ?_
  rintro e w1 ⟨aB, cB, rfl, rb, hb⟩
  replace c0 := below_cell hb c0
  replace c1 := below_cell hb c1
  replace RS := Lib.hid (RS.out.below hb)
  replace RA := Lib.hid (RA.out.below hb)
  replace HB := Lib.hid (HB.out.trans (hb.mono HB.out.size))
  clear hb
  have RB := Lib.hid rb
  clear rb
  go_wp2_with fail
  have hb : Below w1.heap.size w1 w1.drew := (Below.refl _ _).drew
  replace c0 := below_cell hb c0
  replace c1 := below_cell hb c1
  replace RS := Lib.hid (RS.out.below hb)
  replace RA := Lib.hid (RA.out.below hb)
  replace RB := Lib.hid (RB.out.below hb)
  replace HB := Lib.hid (HB.out.trans (hb.mono HB.out.size))
  clear hb
  go_region_held3 (fun W => W.cell? ⟨w.heap.size, 0, none⟩ = some (.int .i64 k) ∧ W.cell? ⟨w.heap.size, 1, none⟩ = some (.slice a l.length c)) (first | exact ⟨c0, c1⟩ | go_keep) ((first | (go_at_call 31; ((with_reducible refine (k_samePairs RA.out RB.out).mono ?_)); rintro _ wK ⟨rfl, hb⟩; first | (have hb2 := hb; replace c0 := below_cell hb2 c0; replace c1 := below_cell hb2 c1; replace RS := Lib.hid (RS.out.below hb2); replace RA := Lib.hid (RA.out.below hb2); replace RB := Lib.hid (RB.out.below hb2); replace HB := Lib.hid (HB.out.trans (hb2.mono HB.out.size)); clear hb2 hb) | (have hb2 := ((Below.refl _ _).alloc (Nat.le_refl _) _).trans (hb.mono (by simp)); replace c0 := below_cell hb2 c0; replace c1 := below_cell hb2 c1; replace RS := Lib.hid (RS.out.below hb2); replace RA := Lib.hid (RA.out.below hb2); replace RB := Lib.hid (RB.out.below hb2); replace HB := Lib.hid (HB.out.trans (hb2.mono HB.out.size)); clear hb2 hb)) | (go_at_call 32; ((with_reducible refine (check_any _ _ _ _ RS.out).mono ?_)); rintro _ wK ⟨rfl, hb⟩; first | (have hb2 := hb; replace c0 := below_cell hb2 c0; replace c1 := below_cell hb2 c1; replace RS := Lib.hid (RS.out.below hb2); replace RA := Lib.hid (RA.out.below hb2); replace RB := Lib.hid (RB.out.below hb2); replace HB := Lib.hid (HB.out.trans (hb2.mono HB.out.size)); clear hb2 hb) | (have hb2 := ((Below.refl _ _).alloc (Nat.le_refl _) _).trans (hb.mono (by simp)); replace c0 := below_cell hb2 c0; replace c1 := below_cell hb2 c1; replace RS := Lib.hid (RS.out.below hb2); replace RA := Lib.hid (RA.out.below hb2); replace RB := Lib.hid (RB.out.below hb2); replace HB := Lib.hid (HB.out.trans (hb2.mono HB.out.size)); clear hb2 hb)) | (go_at_call 33; ((with_reducible refine (refCheck_any _ _ _ _ RS.out).mono ?_)); rintro _ wK ⟨rfl, hb⟩; first | (have hb2 := hb; replace c0 := below_cell hb2 c0; replace c1 := below_cell hb2 c1; replace RS := Lib.hid (RS.out.below hb2); replace RA := Lib.hid (RA.out.below hb2); replace RB := Lib.hid (RB.out.below hb2); replace HB := Lib.hid (HB.out.trans (hb2.mono HB.out.size)); clear hb2 hb) | (have hb2 := ((Below.refl _ _).alloc (Nat.le_refl _) _).trans (hb.mono (by simp)); replace c0 := below_cell hb2 c0; replace c1 := below_cell hb2 c1; replace RS := Lib.hid (RS.out.below hb2); replace RA := Lib.hid (RA.out.below hb2); replace RB := Lib.hid (RB.out.below hb2); replace HB := Lib.hid (HB.out.trans (hb2.mono HB.out.size)); clear hb2 hb)) | (go_at_call 20; ((with_reducible refine (known_any _).mono ?_)); rintro _ wK ⟨rfl, hb⟩; first | (have hb2 := hb; replace c0 := below_cell hb2 c0; replace c1 := below_cell hb2 c1; replace RS := Lib.hid (RS.out.below hb2); replace RA := Lib.hid (RA.out.below hb2); replace RB := Lib.hid (RB.out.below hb2); replace HB := Lib.hid (HB.out.trans (hb2.mono HB.out.size)); clear hb2 hb) | (have hb2 := ((Below.refl _ _).alloc (Nat.le_refl _) _).trans (hb.mono (by simp)); replace c0 := below_cell hb2 c0; replace c1 := below_cell hb2 c1; replace RS := Lib.hid (RS.out.below hb2); replace RA := Lib.hid (RA.out.below hb2); replace RB := Lib.hid (RB.out.below hb2); replace HB := Lib.hid (HB.out.trans (hb2.mono HB.out.size)); clear hb2 hb)) | fail))
  all_goals (go_wp2; go_ret; exact ⟨rfl, HB.out⟩)
end Go.Proofs.Ytkoeplbkeboklaa
