/- The law RetroLives, walked. (Printed by laws.py.) -/
import Derived.Test.YtkoeplbkeboklaaM8
import Derived.Deep.RegionHeld3
set_option linter.unusedVariables false
set_option linter.unusedSimpArgs false
namespace Go.Proofs.Ytkoeplbkeboklaa
open Go.RowKit
set_option maxRecDepth 100000 in
set_option maxHeartbeats 8000000 in
theorem w_RetroLives (k : Int) (u : Value) (l : List Step) (w : World) (hr : Rd Step.cells 4 w u l) :
    Calls Try.prog 3 #[.agg #[.int .i64 k, u]] w fun e w' => e = .returned (.bool true) ∧ Below w.heap.size w w' := by
  obtain ⟨a, c, rfl⟩ : ∃ a c, u = .slice a l.length c := by obtain ⟨_, a, c, rfl, _⟩ := hr; exact ⟨a, c, rfl⟩
  obtain ⟨ls, e1, he1⟩ : ∃ ls e1, livesP k l = (ls, e1) := ⟨_, _, rfl⟩
  obtain ⟨ts, e2, he2⟩ : ∃ ts e2, takesP k l = (ts, e2) := ⟨_, _, rfl⟩
  have E1 := Lib.hid he1
  have E2 := Lib.hid he2
  clear he1 he2
  have HB := Lib.hid (Below.refl w.heap.size w)
  have RS := Lib.hid hr
  clear hr
  go_enter Try.func3, Try.ntmps3
  go_wp2_with fail
  refine named_box1 (G := fun W => Calls _ _ _ W _) _ _ _ fun w2 hb hz hx => ?_
  replace RS := Lib.hid (RS.out.below hb)
  replace HB := Lib.hid (HB.out.trans (hb.mono HB.out.size))
  clear hb
  have c0 : w2.cell? ⟨w.heap.size, 0, none⟩ = some (.int .i64 k) := cell_blk hx 0
  have c1 : w2.cell? ⟨w.heap.size, 1, none⟩ = some (.slice a l.length c) := cell_blk hx 1
  clear hx hz
  refine (g_lives ls e1 RS.out E1.out).mono ?_
  rintro e w1 ⟨aA, cA, rfl, ra, hb⟩
  replace c0 := below_cell hb c0
  replace c1 := below_cell hb c1
  replace RS := Lib.hid (RS.out.below hb)
  replace HB := Lib.hid (HB.out.trans (hb.mono HB.out.size))
  clear hb
  have RA := Lib.hid ra
  clear ra
  go_wp2_with fail
  refine (g_refLives ls e1 RS.out E1.out).mono ?_
  rintro e w1 ⟨aB, cB, rfl, rb, hb⟩
  replace c0 := below_cell hb c0
  replace c1 := below_cell hb c1
  replace RS := Lib.hid (RS.out.below hb)
  replace RA := Lib.hid (RA.out.below hb)
  replace HB := Lib.hid (HB.out.trans (hb.mono HB.out.size))
  clear hb
  have RB := Lib.hid rb
  clear rb
  go_wp2_with fail
  refine (g_takes ts e2 RS.out E2.out).mono ?_
  rintro e w1 ⟨aC, cC, rfl, rc, hb⟩
  replace c0 := below_cell hb c0
  replace c1 := below_cell hb c1
  replace RS := Lib.hid (RS.out.below hb)
  replace RA := Lib.hid (RA.out.below hb)
  replace RB := Lib.hid (RB.out.below hb)
  replace HB := Lib.hid (HB.out.trans (hb.mono HB.out.size))
  clear hb
  have RC := Lib.hid rc
  clear rc
  go_wp2_with fail
  refine (g_refTakes ts e2 RS.out E2.out).mono ?_
  rintro e w1 ⟨aD, cD, rfl, rd, hb⟩
  replace c0 := below_cell hb c0
  replace c1 := below_cell hb c1
  replace RS := Lib.hid (RS.out.below hb)
  replace RA := Lib.hid (RA.out.below hb)
  replace RB := Lib.hid (RB.out.below hb)
  replace RC := Lib.hid (RC.out.below hb)
  replace HB := Lib.hid (HB.out.trans (hb.mono HB.out.size))
  clear hb
  have RD := Lib.hid rd
  clear rd
  go_wp2_with fail
  refine (k_sameLives RA.out RB.out).mono ?_
  rintro e w1 ⟨rfl, hb⟩
  replace c0 := below_cell hb c0
  replace c1 := below_cell hb c1
  replace RS := Lib.hid (RS.out.below hb)
  replace RA := Lib.hid (RA.out.below hb)
  replace RB := Lib.hid (RB.out.below hb)
  replace RC := Lib.hid (RC.out.below hb)
  replace RD := Lib.hid (RD.out.below hb)
  replace HB := Lib.hid (HB.out.trans (hb.mono HB.out.size))
  clear hb
  go_wp2_with fail
  refine (k_sameSpans RC.out RD.out).mono ?_
  rintro e w1 ⟨rfl, hb⟩
  replace c0 := below_cell hb c0
  replace c1 := below_cell hb c1
  replace RS := Lib.hid (RS.out.below hb)
  replace RA := Lib.hid (RA.out.below hb)
  replace RB := Lib.hid (RB.out.below hb)
  replace RC := Lib.hid (RC.out.below hb)
  replace RD := Lib.hid (RD.out.below hb)
  replace HB := Lib.hid (HB.out.trans (hb.mono HB.out.size))
  clear hb
  go_wp2_with fail
  refine (known_any _).mono ?_
  rintro e w1 ⟨rfl, hb⟩
  replace c0 := below_cell hb c0
  replace c1 := below_cell hb c1
  replace RS := Lib.hid (RS.out.below hb)
  replace RA := Lib.hid (RA.out.below hb)
  replace RB := Lib.hid (RB.out.below hb)
  replace RC := Lib.hid (RC.out.below hb)
  replace RD := Lib.hid (RD.out.below hb)
  replace HB := Lib.hid (HB.out.trans (hb.mono HB.out.size))
  clear hb
  go_wp2
  go_ret
  exact ⟨rfl, HB.out⟩
end Go.Proofs.Ytkoeplbkeboklaa
