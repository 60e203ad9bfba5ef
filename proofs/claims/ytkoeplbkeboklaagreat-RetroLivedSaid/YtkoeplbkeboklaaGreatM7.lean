/- My texts of layer 14, joined: L1, F0, P14, P15, P16, P21, P22, P23, P24, R40. -/
import Derived.Test.YtkoeplbkeboklaaGreatM6
import Derived.Deep.DeepCutAuto
import Derived.Deep.Slices
import Derived.Lib.SmallJoins
import Derived.ProofKit
/- The laws' known: the chapter's examples. (Printed by known.py.) -/
set_option linter.unusedVariables false
set_option linter.unusedSimpArgs false
namespace Go.Proofs.YtkoeplbkeboklaaGreat
open Go.RowKit
set_option maxRecDepth 100000 in
set_option maxHeartbeats 8000000 in
theorem known_any (w : World) : Calls Tryz.prog 8 #[] w fun e w' => e = .returned (.bool true) ∧ Below w.heap.size w w' := by
  have HB := Lib.hid (Below.refl w.heap.size w)
  go_enter Tryz.func8, Tryz.ntmps8
  go_wp2_with fail
  refine (k_line 1 _).mono ?_
  rintro e w1 ⟨aS, cS, rfl, rs, hb⟩
  replace HB := Lib.hid (HB.out.trans (hb.mono HB.out.size))
  clear hb
  have RS := Lib.hid rs
  clear rs
  go_wp2_with fail
  refine (k_line 2 _).mono ?_
  rintro e w1 ⟨aQ, cQ, rfl, rq, hb⟩
  replace RS := Lib.hid (RS.out.below hb)
  replace HB := Lib.hid (HB.out.trans (hb.mono HB.out.size))
  clear hb
  have RQ := Lib.hid rq
  clear rq
  go_wp2_with fail
  refine named_box2 (G := fun W => Calls _ _ _ W _) _ _ _ _ _ fun w2 hb hz hx0 hx1 => ?_
  replace RS := Lib.hid (RS.out.below hb)
  replace RQ := Lib.hid (RQ.out.below hb)
  replace HB := Lib.hid (HB.out.trans (hb.mono HB.out.size))
  clear hb
  have c0 : w2.cell? ⟨w1.heap.size, 0, none⟩ = some (.int .i64 1) := cell_blk hx0 0
  have c1 : w2.cell? ⟨w1.heap.size, 1, none⟩ = some (.slice aS 5 cS) := cell_blk hx0 1
  have c2 : w2.cell? ⟨w1.heap.size + 1, 0, none⟩ = some (.int .i64 2) := cell_blk hx1 0
  have c3 : w2.cell? ⟨w1.heap.size + 1, 1, none⟩ = some (.slice aQ 5 cQ) := cell_blk hx1 1
  clear hx0 hx1 hz
  generalize w1.heap.size = X at *
  refine (k_at 3 _ 2 RS.out e_at1 rfl).mono ?_
  rintro e w1 ⟨aA, cA, rfl, ra, hb⟩
  replace c0 := below_cell hb c0
  replace c1 := below_cell hb c1
  replace c2 := below_cell hb c2
  replace c3 := below_cell hb c3
  replace RS := Lib.hid (RS.out.below hb)
  replace RQ := Lib.hid (RQ.out.below hb)
  replace HB := Lib.hid (HB.out.trans (hb.mono HB.out.size))
  clear hb
  have RA := Lib.hid ra
  clear ra
  go_wp2_with fail
  refine (k_at 4 _ 1 RQ.out e_at2 rfl).mono ?_
  rintro e w1 ⟨aB, cB, rfl, rb, hb⟩
  replace c0 := below_cell hb c0
  replace c1 := below_cell hb c1
  replace c2 := below_cell hb c2
  replace c3 := below_cell hb c3
  replace RS := Lib.hid (RS.out.below hb)
  replace RQ := Lib.hid (RQ.out.below hb)
  replace RA := Lib.hid (RA.out.below hb)
  replace HB := Lib.hid (HB.out.trans (hb.mono HB.out.size))
  clear hb
  have RB := Lib.hid rb
  clear rb
  go_wp2_with fail
  refine (k_lives _ 2 RS.out e_lives rfl).mono ?_
  rintro e w1 ⟨aL, cL, rfl, rl, hb⟩
  replace c0 := below_cell hb c0
  replace c1 := below_cell hb c1
  replace c2 := below_cell hb c2
  replace c3 := below_cell hb c3
  replace RS := Lib.hid (RS.out.below hb)
  replace RQ := Lib.hid (RQ.out.below hb)
  replace RA := Lib.hid (RA.out.below hb)
  replace RB := Lib.hid (RB.out.below hb)
  replace HB := Lib.hid (HB.out.trans (hb.mono HB.out.size))
  clear hb
  have RL := Lib.hid rl
  clear rl
  go_wp2_with fail
  refine (k_takes _ 3 RS.out e_takes rfl).mono ?_
  rintro e w1 ⟨aT, cT, rfl, rt, hb⟩
  replace c0 := below_cell hb c0
  replace c1 := below_cell hb c1
  replace c2 := below_cell hb c2
  replace c3 := below_cell hb c3
  replace RS := Lib.hid (RS.out.below hb)
  replace RQ := Lib.hid (RQ.out.below hb)
  replace RA := Lib.hid (RA.out.below hb)
  replace RB := Lib.hid (RB.out.below hb)
  replace RL := Lib.hid (RL.out.below hb)
  replace HB := Lib.hid (HB.out.trans (hb.mono HB.out.size))
  clear hb
  have RT := Lib.hid rt
  clear rt
  go_wp2_with fail
  refine named_box1 (G := fun W => Calls _ _ _ W _) _ _ _ fun w2 hb hz hx => ?_
  replace c0 := below_cell hb c0
  replace c1 := below_cell hb c1
  replace c2 := below_cell hb c2
  replace c3 := below_cell hb c3
  replace RS := Lib.hid (RS.out.below hb)
  replace RQ := Lib.hid (RQ.out.below hb)
  replace RA := Lib.hid (RA.out.below hb)
  replace RB := Lib.hid (RB.out.below hb)
  replace RL := Lib.hid (RL.out.below hb)
  replace RT := Lib.hid (RT.out.below hb)
  replace HB := Lib.hid (HB.out.trans (hb.mono HB.out.size))
  clear hb
  refine (k_vals [5, 6] _ 2 (rd_new int_len 3 [5, 6] _ 2 _ hx rfl rfl (by decide)) (by decide) rfl rfl).mono ?_
  rintro e w1 ⟨aV, cV, rfl, rv, hb⟩
  replace c0 := below_cell hb c0
  replace c1 := below_cell hb c1
  replace c2 := below_cell hb c2
  replace c3 := below_cell hb c3
  replace RS := Lib.hid (RS.out.below hb)
  replace RQ := Lib.hid (RQ.out.below hb)
  replace RA := Lib.hid (RA.out.below hb)
  replace RB := Lib.hid (RB.out.below hb)
  replace RL := Lib.hid (RL.out.below hb)
  replace RT := Lib.hid (RT.out.below hb)
  replace HB := Lib.hid (HB.out.trans (hb.mono HB.out.size))
  clear hb
  have RV := Lib.hid rv
  clear rv
  clear hx hz
  go_wp2_with fail
  refine (k_samePairs RA.out RV.out).mono ?_
  rintro e w1 ⟨rfl, hb⟩
  replace c0 := below_cell hb c0
  replace c1 := below_cell hb c1
  replace c2 := below_cell hb c2
  replace c3 := below_cell hb c3
  replace RS := Lib.hid (RS.out.below hb)
  replace RQ := Lib.hid (RQ.out.below hb)
  replace RA := Lib.hid (RA.out.below hb)
  replace RB := Lib.hid (RB.out.below hb)
  replace RL := Lib.hid (RL.out.below hb)
  replace RT := Lib.hid (RT.out.below hb)
  replace RV := Lib.hid (RV.out.below hb)
  replace HB := Lib.hid (HB.out.trans (hb.mono HB.out.size))
  clear hb
  clear RV
  go_wp2_with fail
  refine named_box1 (G := fun W => Calls _ _ _ W _) _ _ _ fun w2 hb hz hx => ?_
  replace c0 := below_cell hb c0
  replace c1 := below_cell hb c1
  replace c2 := below_cell hb c2
  replace c3 := below_cell hb c3
  replace RS := Lib.hid (RS.out.below hb)
  replace RQ := Lib.hid (RQ.out.below hb)
  replace RA := Lib.hid (RA.out.below hb)
  replace RB := Lib.hid (RB.out.below hb)
  replace RL := Lib.hid (RL.out.below hb)
  replace RT := Lib.hid (RT.out.below hb)
  replace HB := Lib.hid (HB.out.trans (hb.mono HB.out.size))
  clear hb
  refine (k_vals [6] _ 1 (rd_new int_len 3 [6] _ 1 _ hx rfl rfl (by decide)) (by decide) rfl rfl).mono ?_
  rintro e w1 ⟨aV, cV, rfl, rv, hb⟩
  replace c0 := below_cell hb c0
  replace c1 := below_cell hb c1
  replace c2 := below_cell hb c2
  replace c3 := below_cell hb c3
  replace RS := Lib.hid (RS.out.below hb)
  replace RQ := Lib.hid (RQ.out.below hb)
  replace RA := Lib.hid (RA.out.below hb)
  replace RB := Lib.hid (RB.out.below hb)
  replace RL := Lib.hid (RL.out.below hb)
  replace RT := Lib.hid (RT.out.below hb)
  replace HB := Lib.hid (HB.out.trans (hb.mono HB.out.size))
  clear hb
  have RV := Lib.hid rv
  clear rv
  clear hx hz
  go_wp2_with fail
  refine (k_samePairs RB.out RV.out).mono ?_
  rintro e w1 ⟨rfl, hb⟩
  replace c0 := below_cell hb c0
  replace c1 := below_cell hb c1
  replace c2 := below_cell hb c2
  replace c3 := below_cell hb c3
  replace RS := Lib.hid (RS.out.below hb)
  replace RQ := Lib.hid (RQ.out.below hb)
  replace RA := Lib.hid (RA.out.below hb)
  replace RB := Lib.hid (RB.out.below hb)
  replace RL := Lib.hid (RL.out.below hb)
  replace RT := Lib.hid (RT.out.below hb)
  replace RV := Lib.hid (RV.out.below hb)
  replace HB := Lib.hid (HB.out.trans (hb.mono HB.out.size))
  clear hb
  clear RV
  clear RA RB
  go_wp2_with fail
  refine named_box1 (G := fun W => Calls _ _ _ W _) _ _ _ fun w2 hb hz hx => ?_
  replace c0 := below_cell hb c0
  replace c1 := below_cell hb c1
  replace c2 := below_cell hb c2
  replace c3 := below_cell hb c3
  replace RS := Lib.hid (RS.out.below hb)
  replace RQ := Lib.hid (RQ.out.below hb)
  replace RL := Lib.hid (RL.out.below hb)
  replace RT := Lib.hid (RT.out.below hb)
  replace HB := Lib.hid (HB.out.trans (hb.mono HB.out.size))
  clear hb
  refine (k_sameSpans RT.out (rd_new span_len 50 [⟨3, 4⟩, ⟨1, 7⟩, ⟨-1, 9⟩] _ 3 _ hx rfl rfl (by decide))).mono ?_
  rintro e w1 ⟨rfl, hb⟩
  replace c0 := below_cell hb c0
  replace c1 := below_cell hb c1
  replace c2 := below_cell hb c2
  replace c3 := below_cell hb c3
  replace RS := Lib.hid (RS.out.below hb)
  replace RQ := Lib.hid (RQ.out.below hb)
  replace RL := Lib.hid (RL.out.below hb)
  replace RT := Lib.hid (RT.out.below hb)
  replace HB := Lib.hid (HB.out.trans (hb.mono HB.out.size))
  clear hb
  clear hx hz RT
  go_wp2_with fail
  refine named_box1 (G := fun W => Calls _ _ _ W _) _ _ _ fun w2 hb hz hx => ?_
  replace c0 := below_cell hb c0
  replace c1 := below_cell hb c1
  replace c2 := below_cell hb c2
  replace c3 := below_cell hb c3
  replace RS := Lib.hid (RS.out.below hb)
  replace RQ := Lib.hid (RQ.out.below hb)
  replace RL := Lib.hid (RL.out.below hb)
  replace HB := Lib.hid (HB.out.trans (hb.mono HB.out.size))
  clear hb
  refine (k_sameLives RL.out (rd_new life_len 41 [⟨1, 7, 0, 5⟩, ⟨3, 4, 0, 6⟩] _ 2 _ hx rfl rfl (by decide))).mono ?_
  rintro e w1 ⟨rfl, hb⟩
  replace c0 := below_cell hb c0
  replace c1 := below_cell hb c1
  replace c2 := below_cell hb c2
  replace c3 := below_cell hb c3
  replace RS := Lib.hid (RS.out.below hb)
  replace RQ := Lib.hid (RQ.out.below hb)
  replace RL := Lib.hid (RL.out.below hb)
  replace HB := Lib.hid (HB.out.trans (hb.mono HB.out.size))
  clear hb
  clear hx hz RL
  go_upto_region 10 with (fail)
  go_cut [4, 11, 12] (fun e q d W => ∃ (Y : Nat) (a2 a3 : Option Addr) (c2 c3 : Nat), e = .int .i64 0 ∧ q = .pointer (some ⟨Y, 0, none⟩) ∧ d = .slice a3 1 c3 ∧ Below w1.heap.size w1 W ∧ W.cell? ⟨Y, 0, none⟩ = some (.int .i64 2) ∧ W.cell? ⟨Y, 1, none⟩ = some (.slice a2 6 c2) ∧ Rd Step.cells 4 W (.slice a2 6 c2) lineX ∧ Rd Span.cells 2 W (.slice a3 1 c3) [⟨2, 8⟩])
  case first =>
    have EI := Lib.hid (enters_of Tryz.func26 (by kernel_rfl) rfl)
    have EJ := Lib.hid (enters_of Tryz.func25 (by kernel_rfl) rfl)
    refine wp_region_noPanic ?_
    refine wp_region_held_drew (S := fun W => W.cell? ⟨X + 1, 0, none⟩ = some (.int .i64 2) ∧ W.cell? ⟨X + 1, 1, none⟩ = some (.slice aQ 5 cQ)) (by kernel_rfl) ⟨c2, c3⟩ (fun hHeld => ?_)
    set_option maxRecDepth 10000 in
    refine wpAnyH_take (i := 0) (v := ?_) rfl (by kernel_rfl) (by kernel_rfl) (by kernel_rfl) (fun _ _ _ h => h) (Or.inl ⟨by rfl, ?_⟩) (by assumption) ?_
    rotate_left
    · intro w hSw; (try dsimp only at hSw); go_simp; (try with_reducible rfl)
    try simp only [Act.put, List.getElem_toArray, List.getElem_cons_zero, List.getElem_cons_succ, List.setIfInBounds_toArray, List.set_cons_zero, List.set_cons_succ]

    set_option maxRecDepth 10000 in
    refine wpAnyH_ready (rs := [1, 7]) (by kernel_rfl) (by simp) ?_

    refine AllReadyH.cons rfl (fun K hK => ?_) ?_
    refine step_call (by rfl) 26 _ _ (by rfl) (EI.out) _ (by rfl) (in_any 2 8 _) ?_
    rintro _ wI ⟨rfl, hbI⟩
    refine ⟨_, rfl, ?_⟩
    have hI : Below w1.heap.size w1 wI := (Below.refl _ _).drew.trans hbI
    have p2 := below_cell hI c2
    have p3 := below_cell hI c3
    have hzI := hI.size
    refine hK.out _ _ ⟨p2, p3⟩ (fun hHeld => ?_)
    clear hK K
    try simp only [Act.put, List.setIfInBounds_toArray, List.set_cons_zero, List.set_cons_succ]

    · skip
      set_option maxRecDepth 10000 in
      refine wpAnyH_ready (rs := [2, 7]) (by kernel_rfl) (by simp) ?_

      refine AllReadyH.cons rfl (fun K hK => ?_) ?_
      refine step_call (by rfl) 25 _ _ (by rfl) (EJ.out) _ (by rfl) (k_insert ⟨2, 1, 0, 8⟩ lineX [⟨2, 8⟩] 6 1 0 (RQ.out.below hI) 2 e_ins rfl rfl) ?_
      rintro _ wJ ⟨a2, b2, a3, b3, rfl, rx, rd, hbJ, ox, od⟩
      refine ⟨_, rfl, ?_⟩
      have hIJ : Below wI.heap.size wI wJ := hbJ
      have hJ : Below w1.heap.size w1 wJ := hI.trans (hIJ.mono hI.size)
      have q2 := below_cell hJ c2
      have q3 := below_cell hJ c3
      have RX := Lib.hid rx
      have RD := Lib.hid rd
      clear rx rd
      have OX := Lib.hid (And.intro ox od)
      clear ox od
      have hzJ := hIJ.size
      refine hK.out _ _ ⟨q2, q3⟩ (fun hHeld => ?_)
      clear hK K
      try simp only [Act.put, List.setIfInBounds_toArray, List.set_cons_zero, List.set_cons_succ]
      set_option maxRecDepth 10000 in
      refine wpAnyH_take (i := 3) (v := ?_) rfl (by kernel_rfl) (by kernel_rfl) (by kernel_rfl) (fun _ _ _ h => h) (Or.inl ⟨by rfl, ?_⟩) (by assumption) ?_
      rotate_left
      · intro w hSw; (try dsimp only at hSw); go_simp; (try with_reducible rfl)
      try simp only [Act.put, List.getElem_toArray, List.getElem_cons_zero, List.getElem_cons_succ, List.setIfInBounds_toArray, List.set_cons_zero, List.set_cons_succ]

      set_option maxRecDepth 10000 in
      refine wpAnyH_take (i := 4) (v := ?_) rfl (by kernel_rfl) (by kernel_rfl) (by kernel_rfl) (fun _ _ _ h => h) (Or.inl ⟨by rfl, ?_⟩) (by assumption) ?_
      rotate_left
      · intro w hSw; (try dsimp only at hSw); go_simp; (try with_reducible rfl)
      try simp only [Act.put, List.getElem_toArray, List.getElem_cons_zero, List.getElem_cons_succ, List.setIfInBounds_toArray, List.set_cons_zero, List.set_cons_succ]

      set_option maxRecDepth 10000 in
      refine wpAnyH_take (i := 5) (v := ?_) rfl (by kernel_rfl) (by kernel_rfl) (by kernel_rfl) (fun _ _ _ h => h) (Or.inl ⟨by rfl, ?_⟩) (by assumption) ?_
      rotate_left
      · intro w hSw; (try dsimp only at hSw); go_simp; (try with_reducible rfl)
      try simp only [Act.put, List.getElem_toArray, List.getElem_cons_zero, List.getElem_cons_succ, List.setIfInBounds_toArray, List.set_cons_zero, List.set_cons_succ]

      set_option maxRecDepth 10000 in
      refine wpAnyH_take (i := 6) (v := ?_) rfl (by kernel_rfl) (by kernel_rfl) (by kernel_rfl) (fun _ _ _ h => h) (Or.inl ⟨by rfl, ?_⟩) (by assumption) ?_
      rotate_left
      · intro w hSw; (try dsimp only at hSw); go_simp; (try with_reducible rfl)
      try simp only [Act.put, List.getElem_toArray, List.getElem_cons_zero, List.getElem_cons_succ, List.setIfInBounds_toArray, List.set_cons_zero, List.set_cons_succ]


      · skip
        set_option maxRecDepth 10000 in
        refine wpAnyH_ready (rs := [7]) (by kernel_rfl) (by simp) ?_

        refine AllReadyH.cons rfl (fun K hK => ?_) ?_
        go_simp
        refine hK.out _ _ ⟨below_cell ((Below.refl _ _).alloc (Nat.le_refl _) _) q2, below_cell ((Below.refl _ _).alloc (Nat.le_refl _) _) q3⟩ (fun hHeld => ?_)
        clear hK K
        try simp only [Act.put, List.setIfInBounds_toArray, List.set_cons_zero, List.set_cons_succ]
        · skip
          set_option maxRecDepth 10000 in
          refine wpAnyH_ready (rs := [8]) (by kernel_rfl) (by simp) ?_

          refine AllReadyH.cons rfl (fun K hK => ?_) ?_
          · go_simp
            refine hK.out _ _ ⟨below_cell ((Below.refl _ _).alloc (Nat.le_refl _) _) q2, below_cell ((Below.refl _ _).alloc (Nat.le_refl _) _) q3⟩ (fun hHeld => ?_)
            clear hK K
            try simp only [Act.put, List.setIfInBounds_toArray, List.set_cons_zero, List.set_cons_succ]
            set_option maxRecDepth 10000 in
            refine wpAnyH_take (i := 9) (v := ?_) rfl (by kernel_rfl) (by kernel_rfl) (by kernel_rfl) (fun _ _ _ h => h) (Or.inl ⟨by rfl, ?_⟩) (by assumption) ?_
            rotate_left
            · intro w hSw; (try dsimp only at hSw); go_simp; (try with_reducible rfl)
            try simp only [Act.put, List.getElem_toArray, List.getElem_cons_zero, List.getElem_cons_succ, List.setIfInBounds_toArray, List.set_cons_zero, List.set_cons_succ]

            set_option maxRecDepth 10000 in
            refine wpAnyH_take (i := 10) (v := ?_) rfl (by kernel_rfl) (by kernel_rfl) (by kernel_rfl) (fun _ _ _ h => h) (Or.inl ⟨by rfl, ?_⟩) (by assumption) ?_
            rotate_left
            · intro w hSw; (try dsimp only at hSw); go_simp; (try with_reducible rfl)
            try simp only [Act.put, List.getElem_toArray, List.getElem_cons_zero, List.getElem_cons_succ, List.setIfInBounds_toArray, List.set_cons_zero, List.set_cons_succ]

            refine wpAnyH_done (by kernel_rfl) ?_ _
            refine NoPanic.normal ?_
            go_wp2_with fail
            go_meet
            exact ⟨wJ.heap.size, a2, a3, b2, b3, rfl, rfl, rfl, hJ.trans (((Below.refl _ _).alloc (Nat.le_refl _) _).mono hJ.size), box_at wJ _ _ 0, box_at wJ _ _ 1, RX.out.below ((Below.refl _ _).alloc (Nat.le_refl _) _), RD.out.below ((Below.refl _ _).alloc (Nat.le_refl _) _)⟩
          exact AllReadyH.nil
        exact AllReadyH.nil
      · skip
        refine AllReadyH.cons rfl (fun K hK => ?_) ?_
        go_simp
        refine hK.out _ _ ⟨below_cell ((Below.refl _ _).alloc (Nat.le_refl _) _) p2, below_cell ((Below.refl _ _).alloc (Nat.le_refl _) _) p3⟩ (fun hHeld => ?_)
        clear hK K
        try simp only [Act.put, List.setIfInBounds_toArray, List.set_cons_zero, List.set_cons_succ]
        · skip
          set_option maxRecDepth 10000 in
          refine wpAnyH_ready (rs := [2]) (by kernel_rfl) (by simp) ?_

          refine AllReadyH.cons rfl (fun K hK => ?_) ?_
          refine step_call (by rfl) 25 _ _ (by rfl) (EJ.out) _ (by rfl) (k_insert ⟨2, 1, 0, 8⟩ lineX [⟨2, 8⟩] 6 1 0 ((RQ.out.below hI).below ((Below.refl _ _).alloc (Nat.le_refl _) _)) 2 e_ins rfl rfl) ?_
          rintro _ wJ ⟨a2, b2, a3, b3, rfl, rx, rd, hbJ, ox, od⟩
          refine ⟨_, rfl, ?_⟩
          have hIJ : Below wI.heap.size wI wJ := ((Below.refl _ _).alloc (Nat.le_refl _) _).trans (hbJ.mono (by simp))
          have hJ : Below w1.heap.size w1 wJ := hI.trans (hIJ.mono hI.size)
          have q2 := below_cell hJ c2
          have q3 := below_cell hJ c3
          have RX := Lib.hid rx
          have RD := Lib.hid rd
          clear rx rd
          have OX := Lib.hid (And.intro ox od)
          clear ox od
          have hzJ := hIJ.size
          refine hK.out _ _ ⟨q2, q3⟩ (fun hHeld => ?_)
          clear hK K
          try simp only [Act.put, List.setIfInBounds_toArray, List.set_cons_zero, List.set_cons_succ]
          set_option maxRecDepth 10000 in
          refine wpAnyH_take (i := 3) (v := ?_) rfl (by kernel_rfl) (by kernel_rfl) (by kernel_rfl) (fun _ _ _ h => h) (Or.inl ⟨by rfl, ?_⟩) (by assumption) ?_
          rotate_left
          · intro w hSw; (try dsimp only at hSw); go_simp; (try with_reducible rfl)
          try simp only [Act.put, List.getElem_toArray, List.getElem_cons_zero, List.getElem_cons_succ, List.setIfInBounds_toArray, List.set_cons_zero, List.set_cons_succ]

          set_option maxRecDepth 10000 in
          refine wpAnyH_take (i := 4) (v := ?_) rfl (by kernel_rfl) (by kernel_rfl) (by kernel_rfl) (fun _ _ _ h => h) (Or.inl ⟨by rfl, ?_⟩) (by assumption) ?_
          rotate_left
          · intro w hSw; (try dsimp only at hSw); go_simp; (try with_reducible rfl)
          try simp only [Act.put, List.getElem_toArray, List.getElem_cons_zero, List.getElem_cons_succ, List.setIfInBounds_toArray, List.set_cons_zero, List.set_cons_succ]

          set_option maxRecDepth 10000 in
          refine wpAnyH_take (i := 5) (v := ?_) rfl (by kernel_rfl) (by kernel_rfl) (by kernel_rfl) (fun _ _ _ h => h) (Or.inl ⟨by rfl, ?_⟩) (by assumption) ?_
          rotate_left
          · intro w hSw; (try dsimp only at hSw); go_simp; (try with_reducible rfl)
          try simp only [Act.put, List.getElem_toArray, List.getElem_cons_zero, List.getElem_cons_succ, List.setIfInBounds_toArray, List.set_cons_zero, List.set_cons_succ]

          set_option maxRecDepth 10000 in
          refine wpAnyH_take (i := 6) (v := ?_) rfl (by kernel_rfl) (by kernel_rfl) (by kernel_rfl) (fun _ _ _ h => h) (Or.inl ⟨by rfl, ?_⟩) (by assumption) ?_
          rotate_left
          · intro w hSw; (try dsimp only at hSw); go_simp; (try with_reducible rfl)
          try simp only [Act.put, List.getElem_toArray, List.getElem_cons_zero, List.getElem_cons_succ, List.setIfInBounds_toArray, List.set_cons_zero, List.set_cons_succ]


          · have yb := (hbJ.block wI.heap.size (by simp)).trans (heap_alloc_new wI (.cells #[.int .i64 0, .slice none 0 0] 25))
            have hXl := World.block_lt_of_cell? w1 _ c2
            have y0 := cell_blk yb 0
            have y1 := cell_blk yb 1
            have k0 := free_blk yb 0
            have k1 := free_blk yb 1
            set_option maxRecDepth 10000 in
            refine wpAnyH_ready (rs := [8]) (by kernel_rfl) (by simp) ?_

            refine AllReadyH.cons rfl (fun K hK => ?_) ?_
            · go_simp
              refine hK.out _ _ ⟨fr_cell (stored2 wJ _ _ _) q2 (fun h => by have h2 : X + 1 = _ := h; dsimp only at hXl; omega), fr_cell (stored2 wJ _ _ _) q3 (fun h => by have h2 : X + 1 = _ := h; dsimp only at hXl; omega)⟩ (fun hHeld => ?_)
              clear hK K y0 y1 k0 k1
              try simp only [Act.put, List.setIfInBounds_toArray, List.set_cons_zero, List.set_cons_succ]
              set_option maxRecDepth 10000 in
              refine wpAnyH_take (i := 9) (v := ?_) rfl (by kernel_rfl) (by kernel_rfl) (by kernel_rfl) (fun _ _ _ h => h) (Or.inl ⟨by rfl, ?_⟩) (by assumption) ?_
              rotate_left
              · intro w hSw; (try dsimp only at hSw); go_simp; (try with_reducible rfl)
              try simp only [Act.put, List.getElem_toArray, List.getElem_cons_zero, List.getElem_cons_succ, List.setIfInBounds_toArray, List.set_cons_zero, List.set_cons_succ]

              set_option maxRecDepth 10000 in
              refine wpAnyH_take (i := 10) (v := ?_) rfl (by kernel_rfl) (by kernel_rfl) (by kernel_rfl) (fun _ _ _ h => h) (Or.inl ⟨by rfl, ?_⟩) (by assumption) ?_
              rotate_left
              · intro w hSw; (try dsimp only at hSw); go_simp; (try with_reducible rfl)
              try simp only [Act.put, List.getElem_toArray, List.getElem_cons_zero, List.getElem_cons_succ, List.setIfInBounds_toArray, List.set_cons_zero, List.set_cons_succ]

              refine wpAnyH_done (by kernel_rfl) ?_ _
              refine NoPanic.normal ?_
              go_wp2_with fail
              go_meet
              exact ⟨wI.heap.size, a2, a3, b2, b3, rfl, rfl, rfl, hJ.trans (below_of_fr (stored2 wJ _ _ _) hJ.size fun i hi => by have h2 : i = _ := hi; omega), cell_blk (stored2_blk yb _ _) 0, cell_blk (stored2_blk yb _ _) 1, rd_move RX.out (stored2 wJ _ _ _) (fun i hi h => by have h2 : i = _ := h; have := OX.out.1 i hi; (try simp at this); omega), rd_move RD.out (stored2 wJ _ _ _) (fun i hi h => by have h2 : i = _ := h; have := OX.out.2 i hi; (try simp at this); omega)⟩
            exact AllReadyH.nil

          exact AllReadyH.nil
        exact AllReadyH.nil
    · skip
      refine AllReadyH.cons rfl (fun K hK => ?_) ?_
      go_simp
      refine hK.out _ _ ⟨below_cell ((Below.refl _ _).drew.alloc (Nat.le_refl _) _) c2, below_cell ((Below.refl _ _).drew.alloc (Nat.le_refl _) _) c3⟩ (fun hHeld => ?_)
      clear hK K
      try simp only [Act.put, List.setIfInBounds_toArray, List.set_cons_zero, List.set_cons_succ]
      · skip
        set_option maxRecDepth 10000 in
        refine wpAnyH_ready (rs := [1]) (by kernel_rfl) (by simp) ?_

        refine AllReadyH.cons rfl (fun K hK => ?_) ?_
        refine step_call (by rfl) 26 _ _ (by rfl) (EI.out) _ (by rfl) (in_any 2 8 _) ?_
        rintro _ wI ⟨rfl, hbI⟩
        refine ⟨_, rfl, ?_⟩
        have hI : Below w1.heap.size w1 wI := ((Below.refl _ _).drew.alloc (Nat.le_refl _) _).trans (hbI.mono (by simp))
        have p2 := below_cell hI c2
        have p3 := below_cell hI c3
        have hzI := hI.size
        refine hK.out _ _ ⟨p2, p3⟩ (fun hHeld => ?_)
        clear hK K
        try simp only [Act.put, List.setIfInBounds_toArray, List.set_cons_zero, List.set_cons_succ]

        · have y := (hbI.block w1.heap.size (by simp)).trans (heap_alloc_new w1.drew (.cells #[.int .i64 0, .slice none 0 0] 25))
          have hy := (Array.getElem?_eq_some_iff.1 y).1
          set_option maxRecDepth 10000 in
          refine wpAnyH_ready (rs := [2]) (by kernel_rfl) (by simp) ?_

          refine AllReadyH.cons rfl (fun K hK => ?_) ?_
          refine step_call (by rfl) 25 _ _ (by rfl) (EJ.out) _ (by rfl) (k_insert ⟨2, 1, 0, 8⟩ lineX [⟨2, 8⟩] 6 1 0 (RQ.out.below hI) 2 e_ins rfl rfl) ?_
          rintro _ wJ ⟨a2, b2, a3, b3, rfl, rx, rd, hbJ, ox, od⟩
          refine ⟨_, rfl, ?_⟩
          have hIJ : Below wI.heap.size wI wJ := hbJ
          have hJ : Below w1.heap.size w1 wJ := hI.trans (hIJ.mono hI.size)
          have q2 := below_cell hJ c2
          have q3 := below_cell hJ c3
          have RX := Lib.hid rx
          have RD := Lib.hid rd
          clear rx rd
          have OX := Lib.hid (And.intro ox od)
          clear ox od
          have hzJ := hIJ.size
          refine hK.out _ _ ⟨q2, q3⟩ (fun hHeld => ?_)
          clear hK K
          try simp only [Act.put, List.setIfInBounds_toArray, List.set_cons_zero, List.set_cons_succ]
          set_option maxRecDepth 10000 in
          refine wpAnyH_take (i := 3) (v := ?_) rfl (by kernel_rfl) (by kernel_rfl) (by kernel_rfl) (fun _ _ _ h => h) (Or.inl ⟨by rfl, ?_⟩) (by assumption) ?_
          rotate_left
          · intro w hSw; (try dsimp only at hSw); go_simp; (try with_reducible rfl)
          try simp only [Act.put, List.getElem_toArray, List.getElem_cons_zero, List.getElem_cons_succ, List.setIfInBounds_toArray, List.set_cons_zero, List.set_cons_succ]

          set_option maxRecDepth 10000 in
          refine wpAnyH_take (i := 4) (v := ?_) rfl (by kernel_rfl) (by kernel_rfl) (by kernel_rfl) (fun _ _ _ h => h) (Or.inl ⟨by rfl, ?_⟩) (by assumption) ?_
          rotate_left
          · intro w hSw; (try dsimp only at hSw); go_simp; (try with_reducible rfl)
          try simp only [Act.put, List.getElem_toArray, List.getElem_cons_zero, List.getElem_cons_succ, List.setIfInBounds_toArray, List.set_cons_zero, List.set_cons_succ]

          set_option maxRecDepth 10000 in
          refine wpAnyH_take (i := 5) (v := ?_) rfl (by kernel_rfl) (by kernel_rfl) (by kernel_rfl) (fun _ _ _ h => h) (Or.inl ⟨by rfl, ?_⟩) (by assumption) ?_
          rotate_left
          · intro w hSw; (try dsimp only at hSw); go_simp; (try with_reducible rfl)
          try simp only [Act.put, List.getElem_toArray, List.getElem_cons_zero, List.getElem_cons_succ, List.setIfInBounds_toArray, List.set_cons_zero, List.set_cons_succ]

          set_option maxRecDepth 10000 in
          refine wpAnyH_take (i := 6) (v := ?_) rfl (by kernel_rfl) (by kernel_rfl) (by kernel_rfl) (fun _ _ _ h => h) (Or.inl ⟨by rfl, ?_⟩) (by assumption) ?_
          rotate_left
          · intro w hSw; (try dsimp only at hSw); go_simp; (try with_reducible rfl)
          try simp only [Act.put, List.getElem_toArray, List.getElem_cons_zero, List.getElem_cons_succ, List.setIfInBounds_toArray, List.set_cons_zero, List.set_cons_succ]


          · have yb := (hbJ.block w1.heap.size hy).trans y
            have hXl := World.block_lt_of_cell? w1 _ c2
            have y0 := cell_blk yb 0
            have y1 := cell_blk yb 1
            have k0 := free_blk yb 0
            have k1 := free_blk yb 1
            set_option maxRecDepth 10000 in
            refine wpAnyH_ready (rs := [8]) (by kernel_rfl) (by simp) ?_

            refine AllReadyH.cons rfl (fun K hK => ?_) ?_
            · go_simp
              refine hK.out _ _ ⟨fr_cell (stored2 wJ _ _ _) q2 (fun h => by have h2 : X + 1 = _ := h; dsimp only at hXl; omega), fr_cell (stored2 wJ _ _ _) q3 (fun h => by have h2 : X + 1 = _ := h; dsimp only at hXl; omega)⟩ (fun hHeld => ?_)
              clear hK K y0 y1 k0 k1
              try simp only [Act.put, List.setIfInBounds_toArray, List.set_cons_zero, List.set_cons_succ]
              set_option maxRecDepth 10000 in
              refine wpAnyH_take (i := 9) (v := ?_) rfl (by kernel_rfl) (by kernel_rfl) (by kernel_rfl) (fun _ _ _ h => h) (Or.inl ⟨by rfl, ?_⟩) (by assumption) ?_
              rotate_left
              · intro w hSw; (try dsimp only at hSw); go_simp; (try with_reducible rfl)
              try simp only [Act.put, List.getElem_toArray, List.getElem_cons_zero, List.getElem_cons_succ, List.setIfInBounds_toArray, List.set_cons_zero, List.set_cons_succ]

              set_option maxRecDepth 10000 in
              refine wpAnyH_take (i := 10) (v := ?_) rfl (by kernel_rfl) (by kernel_rfl) (by kernel_rfl) (fun _ _ _ h => h) (Or.inl ⟨by rfl, ?_⟩) (by assumption) ?_
              rotate_left
              · intro w hSw; (try dsimp only at hSw); go_simp; (try with_reducible rfl)
              try simp only [Act.put, List.getElem_toArray, List.getElem_cons_zero, List.getElem_cons_succ, List.setIfInBounds_toArray, List.set_cons_zero, List.set_cons_succ]

              refine wpAnyH_done (by kernel_rfl) ?_ _
              refine NoPanic.normal ?_
              go_wp2_with fail
              go_meet
              exact ⟨w1.heap.size, a2, a3, b2, b3, rfl, rfl, rfl, hJ.trans (below_of_fr (stored2 wJ _ _ _) hJ.size fun i hi => by have h2 : i = _ := hi; omega), cell_blk (stored2_blk yb _ _) 0, cell_blk (stored2_blk yb _ _) 1, rd_move RX.out (stored2 wJ _ _ _) (fun i hi h => by have h2 : i = _ := h; have := OX.out.1 i hi; (try simp at this); omega), rd_move RD.out (stored2 wJ _ _ _) (fun i hi h => by have h2 : i = _ := h; have := OX.out.2 i hi; (try simp at this); omega)⟩
            exact AllReadyH.nil

          exact AllReadyH.nil
        exact AllReadyH.nil
      exact AllReadyH.nil
  case rest =>
    obtain ⟨Y, a2, a3, b2, b3, rfl, rfl, rfl, hb, y0, y1, rx, rd⟩ := hcut
    have HKI := Lib.hid rx
    have HKJ := Lib.hid rd
    replace c0 := below_cell hb c0
    replace c1 := below_cell hb c1
    replace c2 := below_cell hb c2
    replace c3 := below_cell hb c3
    replace RS := Lib.hid (RS.out.below hb)
    replace RQ := Lib.hid (RQ.out.below hb)
    replace HB := Lib.hid (HB.out.trans (hb.mono HB.out.size))
    clear hb
    have RX := Lib.hid HKI.out
    have RD := Lib.hid HKJ.out
    clear rx rd HKI HKJ RQ c2 c3
    go_wp2_with fail
    refine (k_at 4 _ 2 RX.out e_at3 rfl).mono ?_
    rintro e w1 ⟨aC, cC, rfl, rc, hb⟩
    replace c0 := below_cell hb c0
    replace c1 := below_cell hb c1
    replace y0 := below_cell hb y0
    replace y1 := below_cell hb y1
    replace RS := Lib.hid (RS.out.below hb)
    replace RX := Lib.hid (RX.out.below hb)
    replace RD := Lib.hid (RD.out.below hb)
    replace HB := Lib.hid (HB.out.trans (hb.mono HB.out.size))
    clear hb
    have RC := Lib.hid rc
    clear rc
    clear RX y0 y1
    go_wp2_with fail
    refine (k_delete 4 lineY [⟨4, 8⟩] 4 1 0 RS.out 1 e_del rfl rfl).mono ?_
    rintro e w1 ⟨aY, cY, aR, cR, rfl, ry, rr, hb⟩
    replace c0 := below_cell hb c0
    replace c1 := below_cell hb c1
    replace RS := Lib.hid (RS.out.below hb)
    replace RD := Lib.hid (RD.out.below hb)
    replace RC := Lib.hid (RC.out.below hb)
    replace HB := Lib.hid (HB.out.trans (hb.mono HB.out.size))
    clear hb
    have RR := Lib.hid rr
    clear rr
    clear ry
    have e0 := fun o => below_cell ((Below.refl _ _).alloc (Nat.le_refl w1.heap.size) o) c0
    have e1 := fun o => below_cell ((Below.refl _ _).alloc (Nat.le_refl w1.heap.size) o) c1
    go_wp2_with fail
    clear e0 e1
    refine named_box1 (G := fun W => Calls _ _ _ W _) _ _ _ fun w2 hb hz hx => ?_
    replace c0 := below_cell hb c0
    replace c1 := below_cell hb c1
    replace RS := Lib.hid (RS.out.below hb)
    replace RD := Lib.hid (RD.out.below hb)
    replace RC := Lib.hid (RC.out.below hb)
    replace RR := Lib.hid (RR.out.below hb)
    replace HB := Lib.hid (HB.out.trans (hb.mono HB.out.size))
    clear hb
    have s1 : w2.cell? ⟨w1.heap.size, 1, none⟩ = some (.slice aY 4 cY) := cell_blk hx 1
    clear hx hz
    generalize w1.heap.size = Y4 at *
    refine (k_slim 5 lineZ 3 RS.out 1 e_slim rfl).mono ?_
    rintro e w1 ⟨aZ, cZ, rfl, rz, hb⟩
    replace c0 := below_cell hb c0
    replace c1 := below_cell hb c1
    replace s1 := below_cell hb s1
    replace RS := Lib.hid (RS.out.below hb)
    replace RD := Lib.hid (RD.out.below hb)
    replace RC := Lib.hid (RC.out.below hb)
    replace RR := Lib.hid (RR.out.below hb)
    replace HB := Lib.hid (HB.out.trans (hb.mono HB.out.size))
    clear hb
    have RZ := Lib.hid rz
    clear rz
    clear RS c0 c1
    go_wp2_with fail
    refine named_box3 (G := fun W => Code.wp _ _ _ _ W) _ _ _ _ _ _ _ fun w2 hb hz hx0 hx1 hx2 => ?_
    replace s1 := below_cell hb s1
    replace RD := Lib.hid (RD.out.below hb)
    replace RC := Lib.hid (RC.out.below hb)
    replace RR := Lib.hid (RR.out.below hb)
    replace RZ := Lib.hid (RZ.out.below hb)
    replace HB := Lib.hid (HB.out.trans (hb.mono HB.out.size))
    clear hb
    have z0 : w2.cell? ⟨w1.heap.size, 0, none⟩ = some (.int .i64 1) := cell_blk hx0 0
    have z1 : w2.cell? ⟨w1.heap.size, 1, none⟩ = some (.slice aZ 3 cZ) := cell_blk hx0 1
    have RTW := Lib.hid (rd_new span_len 50 [⟨2, 8⟩] _ 1 _ hx1 rfl rfl (by decide))
    have RFO := Lib.hid (rd_new span_len 50 [⟨4, 8⟩] _ 1 _ hx2 rfl rfl (by decide))
    clear hx0 hx1 hx2 hz
    generalize w1.heap.size = Z at *
    have hb : Below w2.heap.size w2 w2.drew := (Below.refl _ _).drew
    replace s1 := below_cell hb s1
    replace z0 := below_cell hb z0
    replace z1 := below_cell hb z1
    replace RD := Lib.hid (RD.out.below hb)
    replace RC := Lib.hid (RC.out.below hb)
    replace RR := Lib.hid (RR.out.below hb)
    replace RZ := Lib.hid (RZ.out.below hb)
    replace RTW := Lib.hid (RTW.out.below hb)
    replace RFO := Lib.hid (RFO.out.below hb)
    replace HB := Lib.hid (HB.out.trans (hb.mono HB.out.size))
    clear hb
    have E1 := Lib.hid (enters_of Tryz.func23 (by kernel_rfl) rfl)
    have E2 := Lib.hid (enters_of Tryz.func22 (by kernel_rfl) rfl)
    have E3 := Lib.hid (enters_of Tryz.func21 (by kernel_rfl) rfl)
    have E4 := Lib.hid (enters_of Tryz.func26 (by kernel_rfl) rfl)
    have E5 := Lib.hid (enters_of Tryz.func30 (by kernel_rfl) rfl)
    have E6 := Lib.hid (enters_of Tryz.func29 (by kernel_rfl) rfl)
    have HV := Lib.hid (fun W : World => k_vals (w := W.alloc (.cells #[.int .i64 8, .int .i64 6] 3)) (v := .slice (some ⟨W.heap.size, 0, none⟩) 2 2) [8, 6] [⟨0, 8⟩, ⟨0, 6⟩] 2 (rd_new int_len 3 [8, 6] _ 2 _ (heap_alloc_new _ _) rfl rfl (by decide)) (by decide) rfl rfl)
    have HZ := Lib.hid (fun (W : World) => rd_new (w := W.alloc (.cells #[.int .i64 1, .int .i64 1, .int .i64 0, .int .i64 5, .int .i64 7, .int .i64 2, .int .i64 0, .int .i64 0, .int .i64 9, .int .i64 2, .int .i64 0, .int .i64 0] 46)) step_len 46 lineZ W.heap.size 3 _ (heap_alloc_new _ _) rfl rfl (by decide))
    go_region_held3 (fun W => W.cell? ⟨Y4, 1, none⟩ = some (.slice aY 4 cY) ∧ W.cell? ⟨Z, 0, none⟩ = some (.int .i64 1) ∧ W.cell? ⟨Z, 1, none⟩ = some (.slice aZ 3 cZ)) (first | exact ⟨s1, z0, z1⟩ | exact ⟨below_cell ((Below.refl _ _).alloc (Nat.le_refl _) _) s1, below_cell ((Below.refl _ _).alloc (Nat.le_refl _) _) z0, below_cell ((Below.refl _ _).alloc (Nat.le_refl _) _) z1⟩ | go_keep) ((first | (go_at_call 23; ((with_reducible refine (k_sameSpans RD.out RTW.out).mono ?_)); rintro _ wK ⟨rfl, hbK⟩; first | (have hb2 := hbK; replace s1 := below_cell hb2 s1; replace z0 := below_cell hb2 z0; replace z1 := below_cell hb2 z1; replace RD := Lib.hid (RD.out.below hb2); replace RC := Lib.hid (RC.out.below hb2); replace RR := Lib.hid (RR.out.below hb2); replace RZ := Lib.hid (RZ.out.below hb2); replace RTW := Lib.hid (RTW.out.below hb2); replace RFO := Lib.hid (RFO.out.below hb2); replace HB := Lib.hid (HB.out.trans (hb2.mono HB.out.size)); clear hb2 hbK) | (have hb2 := ((Below.refl _ _).alloc (Nat.le_refl _) _).trans (hbK.mono (by simp)); replace s1 := below_cell hb2 s1; replace z0 := below_cell hb2 z0; replace z1 := below_cell hb2 z1; replace RD := Lib.hid (RD.out.below hb2); replace RC := Lib.hid (RC.out.below hb2); replace RR := Lib.hid (RR.out.below hb2); replace RZ := Lib.hid (RZ.out.below hb2); replace RTW := Lib.hid (RTW.out.below hb2); replace RFO := Lib.hid (RFO.out.below hb2); replace HB := Lib.hid (HB.out.trans (hb2.mono HB.out.size)); clear hb2 hbK)) | (go_at_call 23; ((with_reducible refine (k_sameSpans RR.out RFO.out).mono ?_)); rintro _ wK ⟨rfl, hbK⟩; first | (have hb2 := hbK; replace s1 := below_cell hb2 s1; replace z0 := below_cell hb2 z0; replace z1 := below_cell hb2 z1; replace RD := Lib.hid (RD.out.below hb2); replace RC := Lib.hid (RC.out.below hb2); replace RR := Lib.hid (RR.out.below hb2); replace RZ := Lib.hid (RZ.out.below hb2); replace RTW := Lib.hid (RTW.out.below hb2); replace RFO := Lib.hid (RFO.out.below hb2); replace HB := Lib.hid (HB.out.trans (hb2.mono HB.out.size)); clear hb2 hbK) | (have hb2 := ((Below.refl _ _).alloc (Nat.le_refl _) _).trans (hbK.mono (by simp)); replace s1 := below_cell hb2 s1; replace z0 := below_cell hb2 z0; replace z1 := below_cell hb2 z1; replace RD := Lib.hid (RD.out.below hb2); replace RC := Lib.hid (RC.out.below hb2); replace RR := Lib.hid (RR.out.below hb2); replace RZ := Lib.hid (RZ.out.below hb2); replace RTW := Lib.hid (RTW.out.below hb2); replace RFO := Lib.hid (RFO.out.below hb2); replace HB := Lib.hid (HB.out.trans (hb2.mono HB.out.size)); clear hb2 hbK)) | (go_at_call 22; ((with_reducible refine (HV.out _).mono ?_)); rintro _ wK ⟨aV, cV, rfl, rv, hbK⟩; first | (have hb2 := hbK; replace s1 := below_cell hb2 s1; replace z0 := below_cell hb2 z0; replace z1 := below_cell hb2 z1; replace RD := Lib.hid (RD.out.below hb2); replace RC := Lib.hid (RC.out.below hb2); replace RR := Lib.hid (RR.out.below hb2); replace RZ := Lib.hid (RZ.out.below hb2); replace RTW := Lib.hid (RTW.out.below hb2); replace RFO := Lib.hid (RFO.out.below hb2); replace HB := Lib.hid (HB.out.trans (hb2.mono HB.out.size)); clear hb2 hbK) | (have hb2 := ((Below.refl _ _).alloc (Nat.le_refl _) _).trans (hbK.mono (by simp)); replace s1 := below_cell hb2 s1; replace z0 := below_cell hb2 z0; replace z1 := below_cell hb2 z1; replace RD := Lib.hid (RD.out.below hb2); replace RC := Lib.hid (RC.out.below hb2); replace RR := Lib.hid (RR.out.below hb2); replace RZ := Lib.hid (RZ.out.below hb2); replace RTW := Lib.hid (RTW.out.below hb2); replace RFO := Lib.hid (RFO.out.below hb2); replace HB := Lib.hid (HB.out.trans (hb2.mono HB.out.size)); clear hb2 hbK); have RV := Lib.hid rv; clear rv) | (go_at_call 21; ((with_reducible refine (k_samePairs RC.out RV.out).mono ?_)); rintro _ wK ⟨rfl, hbK⟩; first | (have hb2 := hbK; replace s1 := below_cell hb2 s1; replace z0 := below_cell hb2 z0; replace z1 := below_cell hb2 z1; replace RD := Lib.hid (RD.out.below hb2); replace RC := Lib.hid (RC.out.below hb2); replace RR := Lib.hid (RR.out.below hb2); replace RZ := Lib.hid (RZ.out.below hb2); replace RTW := Lib.hid (RTW.out.below hb2); replace RFO := Lib.hid (RFO.out.below hb2); replace HB := Lib.hid (HB.out.trans (hb2.mono HB.out.size)); clear hb2 hbK) | (have hb2 := ((Below.refl _ _).alloc (Nat.le_refl _) _).trans (hbK.mono (by simp)); replace s1 := below_cell hb2 s1; replace z0 := below_cell hb2 z0; replace z1 := below_cell hb2 z1; replace RD := Lib.hid (RD.out.below hb2); replace RC := Lib.hid (RC.out.below hb2); replace RR := Lib.hid (RR.out.below hb2); replace RZ := Lib.hid (RZ.out.below hb2); replace RTW := Lib.hid (RTW.out.below hb2); replace RFO := Lib.hid (RFO.out.below hb2); replace HB := Lib.hid (HB.out.trans (hb2.mono HB.out.size)); clear hb2 hbK)) | (go_at_call 26; ((with_reducible refine (in_any _ _ _).mono ?_)); rintro _ wK ⟨rfl, hbK⟩; first | (have hb2 := hbK; replace s1 := below_cell hb2 s1; replace z0 := below_cell hb2 z0; replace z1 := below_cell hb2 z1; replace RD := Lib.hid (RD.out.below hb2); replace RC := Lib.hid (RC.out.below hb2); replace RR := Lib.hid (RR.out.below hb2); replace RZ := Lib.hid (RZ.out.below hb2); replace RTW := Lib.hid (RTW.out.below hb2); replace RFO := Lib.hid (RFO.out.below hb2); replace HB := Lib.hid (HB.out.trans (hb2.mono HB.out.size)); clear hb2 hbK) | (have hb2 := ((Below.refl _ _).alloc (Nat.le_refl _) _).trans (hbK.mono (by simp)); replace s1 := below_cell hb2 s1; replace z0 := below_cell hb2 z0; replace z1 := below_cell hb2 z1; replace RD := Lib.hid (RD.out.below hb2); replace RC := Lib.hid (RC.out.below hb2); replace RR := Lib.hid (RR.out.below hb2); replace RZ := Lib.hid (RZ.out.below hb2); replace RTW := Lib.hid (RTW.out.below hb2); replace RFO := Lib.hid (RFO.out.below hb2); replace HB := Lib.hid (HB.out.trans (hb2.mono HB.out.size)); clear hb2 hbK)) | (go_at_call 30; ((with_reducible refine (out_any _ _).mono ?_)); rintro _ wK ⟨rfl, hbK⟩; first | (have hb2 := hbK; replace s1 := below_cell hb2 s1; replace z0 := below_cell hb2 z0; replace z1 := below_cell hb2 z1; replace RD := Lib.hid (RD.out.below hb2); replace RC := Lib.hid (RC.out.below hb2); replace RR := Lib.hid (RR.out.below hb2); replace RZ := Lib.hid (RZ.out.below hb2); replace RTW := Lib.hid (RTW.out.below hb2); replace RFO := Lib.hid (RFO.out.below hb2); replace HB := Lib.hid (HB.out.trans (hb2.mono HB.out.size)); clear hb2 hbK) | (have hb2 := ((Below.refl _ _).alloc (Nat.le_refl _) _).trans (hbK.mono (by simp)); replace s1 := below_cell hb2 s1; replace z0 := below_cell hb2 z0; replace z1 := below_cell hb2 z1; replace RD := Lib.hid (RD.out.below hb2); replace RC := Lib.hid (RC.out.below hb2); replace RR := Lib.hid (RR.out.below hb2); replace RZ := Lib.hid (RZ.out.below hb2); replace RTW := Lib.hid (RTW.out.below hb2); replace RFO := Lib.hid (RFO.out.below hb2); replace HB := Lib.hid (HB.out.trans (hb2.mono HB.out.size)); clear hb2 hbK)) | (go_at_call 29; ((with_reducible refine (k_same (RZ.out.below ((Below.refl _ _).alloc (Nat.le_refl _) _)) (HZ.out _)).mono ?_)); rintro _ wK ⟨rfl, hbK⟩; first | (have hb2 := hbK; replace s1 := below_cell hb2 s1; replace z0 := below_cell hb2 z0; replace z1 := below_cell hb2 z1; replace RD := Lib.hid (RD.out.below hb2); replace RC := Lib.hid (RC.out.below hb2); replace RR := Lib.hid (RR.out.below hb2); replace RZ := Lib.hid (RZ.out.below hb2); replace RTW := Lib.hid (RTW.out.below hb2); replace RFO := Lib.hid (RFO.out.below hb2); replace HB := Lib.hid (HB.out.trans (hb2.mono HB.out.size)); clear hb2 hbK) | (have hb2 := ((Below.refl _ _).alloc (Nat.le_refl _) _).trans (hbK.mono (by simp)); replace s1 := below_cell hb2 s1; replace z0 := below_cell hb2 z0; replace z1 := below_cell hb2 z1; replace RD := Lib.hid (RD.out.below hb2); replace RC := Lib.hid (RC.out.below hb2); replace RR := Lib.hid (RR.out.below hb2); replace RZ := Lib.hid (RZ.out.below hb2); replace RTW := Lib.hid (RTW.out.below hb2); replace RFO := Lib.hid (RFO.out.below hb2); replace HB := Lib.hid (HB.out.trans (hb2.mono HB.out.size)); clear hb2 hbK)) | fail))
    all_goals (go_wp2; go_ret; exact ⟨rfl, HB.out⟩)
end Go.Proofs.YtkoeplbkeboklaaGreat
/- A line, a step, opened as arguments: what the laws' walks are told of them. -/
set_option linter.unusedVariables false
set_option linter.unusedSimpArgs false
namespace Go.Proofs.YtkoeplbkeboklaaGreat
open Go.ChangeShapes Go.WideShapes Go.RowKit Go.Joins Go.Deep
theorem Tryz.cells25 : Tryz.prog.cellsOf 25 = 2 := by kernel_rfl
theorem Tryz.cells46 : Tryz.prog.cellsOf 46 = 4 := by kernel_rfl
theorem Tryz.cells3 : Tryz.prog.cellsOf 3 = 1 := by kernel_rfl
theorem Tryz.cells44 : Tryz.prog.cellsOf 44 = 1 := by kernel_rfl
section
variable {H : Type} {enc : TypeId × Value → H} {w : World} {base : Nat} {spare : Nat → Bool} {held : Bool}
set_option maxRecDepth 100000 in
theorem steps_spot {W : World} {r : Reach} {b0 : Nat} {c0 u : Value} (hv : Value.okWide Tryz.prog W r b0 25 (.agg #[c0, u])) : ∀ a n c, u = .slice (some a) n c → a.spot = none := by
  unfold Value.okWide at hv
  rw [Tryz.underlying25] at hv
  obtain ⟨cs, hcs, _, ts, hts, _, h⟩ := hv
  injection hcs with hcs
  subst hcs
  have e : Tryz.prog.cellTypes Tryz.prog.depth 25 = some [22, 23] := by kernel_rfl
  rw [e] at hts
  injection hts with hts
  subst hts
  obtain ⟨t, ht, hc⟩ := h 1 u rfl
  have ht' : t = 23 := by simpa using ht.symm
  subst ht'
  rintro a n c rfl
  unfold Cell.okWide Cell.ok at hc
  simp only [Tryz.underlying23] at hc
  exact hc.2.2.2.1
set_option maxRecDepth 100000 in
theorem open_step_cells {n : Nat} {cs : List Value} {x : DataW H × List MemPlace} (h : DataW.trod enc Tryz.prog w base spare held n 46 cs = some x) : ∃ s : Step, cs = s.cells := by
  obtain ⟨y0, y1, y2, y3, m, _, hlen, h0, h1, h2, h3⟩ := trod_struct4 Tryz.underlying46 h
  rw [Tryz.cells46] at hlen
  match cs, hlen with
  | [c0, c1, c2, c3], _ =>
    simp only [Tryz.cells3, Tryz.cells44, List.drop_zero, List.drop_succ_cons, List.take_succ_cons, List.take_zero] at h0 h1 h2 h3
    obtain ⟨a, e0, _, wa⟩ := DataW.trod_int Tryz.underlying3 h0
    obtain ⟨b, e1, _, wb⟩ := DataW.trod_int Tryz.underlying44 h1
    obtain ⟨c, e2, _, wc⟩ := DataW.trod_int Tryz.underlying3 h2
    obtain ⟨d, e3, _, wd⟩ := DataW.trod_int Tryz.underlying3 h3
    simp at e0 e1 e2 e3
    subst e0 e1 e2 e3
    exact ⟨⟨a, b, c, d⟩, rfl⟩
instance : Inhabited Step := ⟨⟨0, 0, 0, 0⟩⟩
theorem open_steps {n : Nat} {v : Value} {x : DataW H × List MemPlace} (hsp : ∀ a n c, v = .slice (some a) n c → a.spot = none) (h : DataW.trod enc Tryz.prog w base spare held n 23 [v] = some x) :
    ∃ l : List Step, Rd Step.cells 4 w v l ∧ SlOk v := by
  rcases open_slice Tryz.underlying23 h with ⟨hcs, _⟩ | ⟨a, len, cap, m, n', D, Pl, hcs, _, hl, hm, hmm, _, hx⟩
  · injection hcs with hcs
    exact ⟨[], hcs ▸ Rd.nil _ _ _, .inl hcs⟩
  · injection hcs with hcs
    subst hcs
    rw [Tryz.cells46] at hx
    have hlm : len ≤ m := by rw [hmm]; split <;> omega
    obtain ⟨f, hf⟩ := choose_lt (α := Step) (n := len) (p := fun i s => ∀ j, j < 4 → w.cell? (a.add (i * 4 + j)) = s.cells[j]?) fun i hi => by
      obtain ⟨cs', h1, h2⟩ := hx i (by omega)
      obtain ⟨s, rfl⟩ := open_step_cells h2
      obtain ⟨_, _, h3⟩ := World.cells?_some h1
      exact ⟨s, fun j hj => by rw [← h3 j hj, add_add]⟩
    obtain ⟨b, off, spot⟩ := a
    have hspot : spot = none := hsp _ _ _ rfl
    subst hspot
    rcases Nat.eq_zero_or_pos len with h0 | h0
    · subst h0
      exact ⟨[], ⟨by simp, _, _, rfl, fun h => by simp at h⟩, .inr ⟨b, off, 0, cap, rfl, hl⟩⟩
    · have hc0 := hf 0 h0 0 (by omega)
      have hb : b < w.heap.size := World.block_lt_of_cell? w ⟨b, off, none⟩ (u := .int .i64 (f 0).at_) (by
        have : w.cell? ((⟨b, off, none⟩ : Addr).add (0 * 4 + 0)) = some (.int .i64 (f 0).at_) := hc0
        simpa [Addr.add] using this)
      have hlen : ((List.range len).map f).length = len := by simp
      refine ⟨(List.range len).map f, ⟨by rw [hlen]; unfold maxLen at hm; omega, some ⟨b, off, none⟩, cap, by rw [hlen], fun _ => ⟨b, off, rfl, hb, ?_⟩⟩, .inr ⟨b, off, len, cap, rfl, hl⟩⟩
      intro i s hs j u hu
      obtain ⟨hi, hs'⟩ := List.getElem?_eq_some_iff.1 hs
      simp only [List.length_map, List.length_range] at hi
      have hj : j < 4 := (List.getElem?_eq_some_iff.1 hu).1
      have := hf i hi j hj
      rw [addr_add] at this
      rw [Nat.add_assoc, this]
      simp only [List.getElem_map, List.getElem_range] at hs'
      rw [hs']
      exact hu
set_option maxRecDepth 100000 in
/-- A line that came in. -/
theorem open_line {W : World} {v : Value} {d : DataW H} {p : List MemPlace} {b0 : Nat} (hv : Value.okWide Tryz.prog W .any b0 25 v) (h : DataW.Trod enc Tryz.prog W base spare held 25 v d p) :
    ∃ (k : Int) (u : Value) (l : List Step), v = .agg #[.int .i64 k, u] ∧ Rd Step.cells 4 W u l ∧ SlOk u := by
  obtain ⟨c0, c1, y0, y1, m, rfl, rfl, rfl, hy0, hy1⟩ := open_agg2 Tryz.underlying25 (by kernel_rfl) Tryz.cells25 hv h
  obtain ⟨a, e0, _, wa⟩ := DataW.trod_int Tryz.underlying22 hy0
  simp at e0
  subst e0
  obtain ⟨l, h1, h2⟩ := open_steps (steps_spot hv) hy1
  exact ⟨a, c1, l, rfl, h1, h2⟩
set_option maxRecDepth 100000 in
/-- A step that came in. -/
theorem open_step {W : World} {v : Value} {d : DataW H} {p : List MemPlace} {b0 : Nat} (hv : Value.okWide Tryz.prog W .any b0 46 v) (h : DataW.Trod enc Tryz.prog W base spare held 46 v d p) :
    ∃ s : Step, v = .agg #[.int .i64 s.at_, .int .i64 s.do_, .int .i64 s.key, .int .i64 s.val] := by
  obtain ⟨c0, c1, c2, c3, y0, y1, y2, y3, m, rfl, _, _, h0, h1, h2, h3⟩ := open_agg4 Tryz.underlying46 (by kernel_rfl) Tryz.cells46 hv h
  obtain ⟨a, e0, _, wa⟩ := DataW.trod_int Tryz.underlying3 h0
  obtain ⟨b, e1, _, wb⟩ := DataW.trod_int Tryz.underlying44 h1
  obtain ⟨c, e2, _, wc⟩ := DataW.trod_int Tryz.underlying3 h2
  obtain ⟨d, e3, _, wd⟩ := DataW.trod_int Tryz.underlying3 h3
  simp at e0 e1 e2 e3
  subst e0 e1 e2 e3
  exact ⟨⟨a, b, c, d⟩, rfl⟩
end
end Go.Proofs.YtkoeplbkeboklaaGreat
/- The plain side of retro: the spans hold just the times at which two lines differ; they increase and lie apart. No program in sight. -/
set_option linter.unusedVariables false
namespace Go.Proofs.YtkoeplbkeboklaaGreat
theorem runP_congr {k t t' : Int} {l : List Step} (h : ∀ s ∈ l, s.at_ ≤ t ↔ s.at_ ≤ t') : runP k t l = runP k t' l := by
  unfold runP
  suffices ∀ th, l.foldl (stepT k t) th = l.foldl (stepT k t') th from this []
  induction l with
  | nil => intro th; rfl
  | cons s l ih =>
    intro th
    have e : stepT k t th s = stepT k t' th s := by
      unfold stepT
      have := h s (by simp)
      by_cases hs : s.at_ ≤ t
      · rw [if_pos hs, if_pos (this.1 hs)]
      · rw [if_neg hs, if_neg fun h2 => hs (this.2 h2)]
    rw [List.foldl_cons, List.foldl_cons, e]
    exact ih (fun s hs => h s (by simp [hs])) _
theorem thereP_congr {k t t' : Int} {l : List Step} (h : ∀ s ∈ l, s.at_ ≤ t ↔ s.at_ ≤ t') : thereP k l t = thereP k l t' := by
  unfold thereP; rw [runP_congr h]
theorem runP_before {k t : Int} {l : List Step} (h : ∀ s ∈ l, t < s.at_) : runP k t l = [] := by
  unfold runP
  induction l with
  | nil => rfl
  | cons s l ih =>
    have : stepT k t [] s = [] := by unfold stepT; rw [if_neg]; have := h s (by simp); omega
    rw [List.foldl_cons, this]
    exact ih fun s hs => h s (by simp [hs])
/-- What the spans are to be, up to a time: D is 'they differ'. -/
structure SpansTo (D : Int → Prop) (out : List Span) (T : Int) : Prop where
  form : ∀ d ∈ out, 0 ≤ d.from_ ∧ d.from_ ≤ d.to_ ∧ d.to_ < T
  apart : out.Pairwise fun d e => d.to_ + 1 < e.from_
  cover : ∀ t, 0 ≤ t → t < T → ((∃ d ∈ out, d.from_ ≤ t ∧ t ≤ d.to_) ↔ D t)
theorem addSpan_cases (out : List Span) (t1 t2 : Int) : (∃ l x, out = l ++ [x] ∧ x.to_ = t1 - 1 ∧ addSpan out t1 t2 = l ++ [{ x with to_ := t2 - 1 }]) ∨ ((∀ l x, out = l ++ [x] → x.to_ ≠ t1 - 1) ∧ addSpan out t1 t2 = out ++ [⟨t1, t2 - 1⟩]) := by
  rcases List.eq_nil_or_concat out with rfl | ⟨l, x, rfl⟩
  · exact .inr ⟨fun l x h => by simp at h, rfl⟩
  · rw [List.concat_eq_append]
    by_cases h : x.to_ = t1 - 1
    · exact .inl ⟨l, x, rfl, h, by simp [addSpan, h]⟩
    · refine .inr ⟨fun l' x' he => ?_, by simp [addSpan, h]⟩
      have := List.append_inj' he rfl
      simp at this
      rw [← this.2]; exact h
theorem SpansTo.skip {D : Int → Prop} {out : List Span} {t1 t2 : Int} (h : SpansTo D out t1) (h12 : t1 < t2) (hD : ∀ t, t1 ≤ t → t < t2 → ¬ D t) : SpansTo D out t2 := by
  refine ⟨fun d hd => by have := h.form d hd; omega, h.apart, fun t h0 ht => ?_⟩
  by_cases hlt : t < t1
  · exact h.cover t h0 hlt
  · refine ⟨fun ⟨d, hd, h1, h2⟩ => ?_, fun hd => absurd hd (hD t (by omega) ht)⟩
    have := h.form d hd
    omega
theorem SpansTo.add {D : Int → Prop} {out : List Span} {t1 t2 : Int} (h : SpansTo D out t1) (h0 : 0 ≤ t1) (h12 : t1 < t2) (hD : ∀ t, t1 ≤ t → t < t2 → D t) : SpansTo D (addSpan out t1 t2) t2 := by
  rcases addSpan_cases out t1 t2 with ⟨l, x, rfl, hx, he⟩ | ⟨hne, he⟩
  · rw [he]
    have hp := List.pairwise_append.1 h.apart
    refine ⟨fun d hd => ?_, List.pairwise_append.2 ⟨hp.1, by simp, fun a ha b hb => ?_⟩, fun t ht0 ht => ?_⟩
    · rcases List.mem_append.1 hd with hd | hd
      · have := h.form d (by simp [hd]); omega
      · simp at hd; subst hd
        have := h.form x (by simp)
        exact ⟨this.1, by show x.from_ ≤ t2 - 1; omega, by show t2 - 1 < t2; omega⟩
    · simp at hb; subst hb
      exact hp.2.2 a ha x (by simp)
    · by_cases hlt : t < t1
      · rw [← h.cover t ht0 hlt]
        constructor
        · rintro ⟨d, hd, h1, h2⟩
          rcases List.mem_append.1 hd with hd | hd
          · exact ⟨d, by simp [hd], h1, h2⟩
          · simp at hd; subst hd
            exact ⟨x, by simp, h1, by omega⟩
        · rintro ⟨d, hd, h1, h2⟩
          rcases List.mem_append.1 hd with hd | hd
          · exact ⟨d, by simp [hd], h1, h2⟩
          · simp at hd; subst hd
            exact ⟨{ d with to_ := t2 - 1 }, List.mem_append.2 (.inr (List.mem_singleton.2 rfl)), h1, by show t ≤ t2 - 1; omega⟩
      · refine ⟨fun _ => hD t (by omega) ht, fun _ => ⟨_, List.mem_append.2 (.inr (List.mem_singleton.2 rfl)), ?_, ?_⟩⟩
        · have := h.form x (by simp); show x.from_ ≤ t; omega
        · show t ≤ t2 - 1; omega
  · rw [he]
    refine ⟨fun d hd => ?_, List.pairwise_append.2 ⟨h.apart, by simp, fun a ha b hb => ?_⟩, fun t ht0 ht => ?_⟩
    · rcases List.mem_append.1 hd with hd | hd
      · have := h.form d hd; omega
      · simp at hd; subst hd
        exact ⟨h0, by show t1 ≤ t2 - 1; omega, by show t2 - 1 < t2; omega⟩
    · simp at hb; subst hb
      show a.to_ + 1 < t1
      have ha2 := h.form a ha
      rcases List.eq_nil_or_concat out with rfl | ⟨l, x, rfl⟩
      · simp at ha
      · rw [List.concat_eq_append] at *
        have hx := hne l x rfl
        have hxf := h.form x (by simp)
        rcases List.mem_append.1 ha with ha | ha
        · have := (List.pairwise_append.1 h.apart).2.2 a ha x (by simp)
          omega
        · simp at ha; subst ha; omega
    · by_cases hlt : t < t1
      · rw [← h.cover t ht0 hlt]
        constructor
        · rintro ⟨d, hd, h1, h2⟩
          rcases List.mem_append.1 hd with hd | hd
          · exact ⟨d, hd, h1, h2⟩
          · simp at hd; subst hd
            exact absurd h1 (by show ¬ t1 ≤ t; omega)
        · rintro ⟨d, hd, h1, h2⟩
          exact ⟨d, by simp [hd], h1, h2⟩
      · exact ⟨fun _ => hD t (by omega) ht, fun _ => ⟨⟨t1, t2 - 1⟩, by simp, by show t1 ≤ t; omega, by show t ≤ t2 - 1; omega⟩⟩
theorem diffFrom_spans {k : Int} {a b : List Step} : ∀ {ts : List Int} {out : List Span} {t1 : Int}, ((t1 :: ts).Pairwise fun x y => x < y) → 0 ≤ t1 → (∀ s ∈ a ++ b, t1 ≤ s.at_ → s.at_ ∈ t1 :: ts) → SpansTo (fun t => thereP k a t ≠ thereP k b t) out t1 →
    ∃ T, T = (t1 :: ts).getLast (by simp) ∧ SpansTo (fun t => thereP k a t ≠ thereP k b t) (diffFrom k a b (t1 :: ts) out) T
  | [], out, t1, _, _, _, h => ⟨t1, rfl, by rw [diffFrom]; exact h; rintro _ _ _ h; simp at h⟩
  | t2 :: ts, out, t1, hp, h0, hm, h => by
    obtain ⟨hp1, hp2⟩ := List.pairwise_cons.1 hp
    have h12 := hp1 t2 (by simp)
    have hno : ∀ s ∈ a ++ b, ∀ t, t1 ≤ t → t < t2 → (s.at_ ≤ t ↔ s.at_ ≤ t1) := fun s hs t h1 h2 => by
      refine ⟨fun h3 => ?_, fun h3 => by omega⟩
      by_cases h4 : s.at_ ≤ t1
      · exact h4
      · exfalso
        have := hm s hs (by omega)
        rcases List.mem_cons.1 this with h5 | h5
        · omega
        · rcases List.mem_cons.1 h5 with h6 | h6
          · omega
          · have := (List.pairwise_cons.1 hp2).1 _ h6; omega
    have hsame : ∀ t, t1 ≤ t → t < t2 → thereP k a t = thereP k a t1 ∧ thereP k b t = thereP k b t1 := fun t h1 h2 =>
      ⟨thereP_congr fun s hs => hno s (by simp [hs]) t h1 h2, thereP_congr fun s hs => hno s (by simp [hs]) t h1 h2⟩
    have hm2 : ∀ s ∈ a ++ b, t2 ≤ s.at_ → s.at_ ∈ t2 :: ts := fun s hs hle => by
      rcases List.mem_cons.1 (hm s hs (by omega)) with h5 | h5
      · omega
      · exact h5
    rw [diffFrom]
    have hnext : SpansTo (fun t => thereP k a t ≠ thereP k b t) (if thereP k a t1 = thereP k b t1 then out else addSpan out t1 t2) t2 := by
      split
      · rename_i he
        exact h.skip h12 fun t h1 h2 => by rw [(hsame t h1 h2).1, (hsame t h1 h2).2]; simpa using he
      · rename_i he
        exact h.add h0 h12 fun t h1 h2 => by rw [(hsame t h1 h2).1, (hsame t h1 h2).2]; exact he
    obtain ⟨T, hT, hS⟩ := diffFrom_spans hp2 (by omega) hm2 hnext
    exact ⟨T, by rw [hT]; simp, hS⟩
theorem diffOf_spans {k : Int} {a b : List Step} (ht : ∀ s ∈ a ++ b, 0 ≤ s.at_ ∧ s.at_ ≤ 1000) : SpansTo (fun t => thereP k a t ≠ thereP k b t) (diffOf k a b) 1001 := by
  unfold diffOf
  have hr := timesP_range ht
  have hs := timesP_strict (a ++ b)
  have hm : ∀ s ∈ a ++ b, s.at_ ∈ timesP (a ++ b) := fun s hs => (timesP_members _).2 (.inr (List.mem_map_of_mem hs))
  have hl : (1001 : Int) ∈ timesP (a ++ b) := (timesP_members _).2 (.inl rfl)
  generalize timesP (a ++ b) = ts at *
  match ts, hl with
  | t1 :: ts, hl =>
    have h0 := (hr t1 (by simp)).1
    have hfirst : ∀ t, t < t1 → ¬ (thereP k a t ≠ thereP k b t) := fun t hlt h => h (by
      have hb : ∀ s ∈ a ++ b, t < s.at_ := fun s hs' => by
        rcases List.mem_cons.1 (hm s hs') with h5 | h5
        · omega
        · have := (List.pairwise_cons.1 hs).1 _ h5; omega
      unfold thereP
      rw [runP_before fun s hs' => hb s (by simp [hs']), runP_before fun s hs' => hb s (by simp [hs'])])
    obtain ⟨T, hT, hS⟩ := diffFrom_spans (k := k) (a := a) (b := b) (out := []) hs h0 (fun s hs' _ => hm s hs') ⟨fun d hd => by simp at hd, .nil, fun t _ hlt => ⟨fun ⟨d, hd, _⟩ => by simp at hd, fun hd => absurd hd (hfirst t hlt)⟩⟩
    have hTl : T = 1001 := by
      have h1 : T ≤ 1001 := by rw [hT]; exact (hr _ (List.getLast_mem _)).2
      have h2 : 1001 ≤ T := by
        rw [hT]
        rcases List.eq_nil_or_concat (t1 :: ts) with h | ⟨l, x, h⟩
        · simp at h
        · rw [List.concat_eq_append] at h
          have hg : (t1 :: ts).getLast (by simp) = x := by simp [h]
          rw [hg]
          rw [h] at hl hs
          rcases List.mem_append.1 hl with hl | hl
          · have := (List.pairwise_append.1 hs).2.2 _ hl x (by simp); omega
          · simp at hl; omega
      omega
    rw [hTl] at hS
    exact hS
theorem diffFrom_same {k : Int} {a : List Step} : ∀ (ts : List Int) (out : List Span), diffFrom k a a ts out = out
  | [], out => by rw [diffFrom]; rintro _ _ _ h; simp at h
  | [t], out => by rw [diffFrom]; rintro _ _ _ h; simp at h
  | t1 :: t2 :: ts, out => by rw [diffFrom, if_pos rfl]; exact diffFrom_same (t2 :: ts) out
theorem diffOf_same (k : Int) (a : List Step) : diffOf k a a = [] := diffFrom_same _ _
theorem diffFrom_comm {k : Int} {a b : List Step} : ∀ (ts : List Int) (out : List Span), diffFrom k a b ts out = diffFrom k b a ts out
  | [], out => by rw [diffFrom, diffFrom]; all_goals (rintro _ _ _ h; simp at h)
  | [t], out => by rw [diffFrom, diffFrom]; all_goals (rintro _ _ _ h; simp at h)
  | t1 :: t2 :: ts, out => by
    rw [diffFrom, diffFrom, diffFrom_comm (t2 :: ts)]
    by_cases h : thereP k a t1 = thereP k b t1
    · rw [if_pos h, if_pos h.symm]
    · rw [if_neg h, if_neg fun h2 => h h2.symm]
theorem diffOf_comm (k : Int) (a b : List Step) : diffOf k a b = diffOf k b a := by
  unfold diffOf
  rw [diffFrom_comm, strict_ext (timesP_strict (a ++ b)) (timesP_strict (b ++ a)) fun x => by rw [timesP_members, timesP_members]; simp [or_comm]]
end Go.Proofs.YtkoeplbkeboklaaGreat
/- The plain side of retro: a line does not remember in which order its steps were inserted. No program in sight. -/
set_option linter.unusedVariables false
namespace Go.Proofs.YtkoeplbkeboklaaGreat
theorem strict_eq : ∀ {a b : List Step}, strictL a → strictL b → (∀ x, x ∈ a ↔ x ∈ b) → a = b
  | [], [], _, _, _ => rfl
  | [], y :: b, _, _, h => by have := (h y).2 (by simp); simp at this
  | x :: a, [], _, _, h => by have := (h x).1 (by simp); simp at this
  | x :: a, y :: b, ha, hb, h => by
    obtain ⟨ha1, ha2⟩ := List.pairwise_cons.1 ha
    obtain ⟨hb1, hb2⟩ := List.pairwise_cons.1 hb
    have hxy : x = y := by
      rcases List.mem_cons.1 ((h x).1 (by simp)) with h1 | h1
      · exact h1
      · rcases List.mem_cons.1 ((h y).2 (by simp)) with h2 | h2
        · exact h2.symm
        · have := hb1 x h1; have := ha1 y h2; omega
    subst hxy
    congr 1
    refine strict_eq ha2 hb2 fun z => ⟨fun hz => ?_, fun hz => ?_⟩
    · rcases List.mem_cons.1 ((h z).1 (by simp [hz])) with h1 | h1
      · subst h1; have := ha1 z hz; omega
      · exact h1
    · rcases List.mem_cons.1 ((h z).2 (by simp [hz])) with h1 | h1
      · subst h1; have := hb1 z hz; omega
      · exact h1
theorem has_mem {l : List Step} {t : Int} (h : hasP l t = true) : ∃ x ∈ l, x.at_ = t := by
  unfold hasP at h
  split at h
  · rename_i s hs
    exact ⟨s, List.mem_of_getElem? hs, by simpa using h⟩
  · cases h
theorem has_of {l : List Step} {s : Step} (hs : strictL l) (h : s ∈ l) : hasP l s.at_ = true ∧ l[placeAt s.at_ l]? = some s := by
  obtain ⟨i, hi, rfl⟩ := List.getElem_of_mem h
  have h1 := placeAt_iff (t := l[i].at_) hs (List.getElem?_eq_getElem hi)
  have hp : placeAt l[i].at_ l = i := by
    rcases Nat.lt_trichotomy (placeAt l[i].at_ l) i with h2 | h2 | h2
    · have h3 := placeAt_iff (t := l[i].at_) hs (List.getElem?_eq_getElem (show placeAt l[i].at_ l < l.length by omega))
      have h4 := List.pairwise_iff_getElem.1 hs _ _ (by omega) hi h2
      have := h3.1 h4
      omega
    · exact h2
    · have := h1.2 h2; omega
  refine ⟨?_, by rw [hp]; exact List.getElem?_eq_getElem hi⟩
  unfold hasP
  rw [hp, List.getElem?_eq_getElem hi]
  simp
theorem without_perm {l : List Step} {i : Nat} {s : Step} (h : l[i]? = some s) : l.Perm (s :: withoutP l i) := by
  obtain ⟨hlt, rfl⟩ := List.getElem?_eq_some_iff.1 h
  unfold withoutP
  have e : l = l.take i ++ l[i] :: l.drop (i + 1) := by rw [List.getElem_cons_drop, List.take_append_drop]
  have := (List.perm_middle (a := l[i]) (l₁ := l.take i) (l₂ := l.drop (i + 1)))
  rwa [← e] at this
theorem with_perm (l : List Step) (s : Step) : (withP l s).Perm (s :: l) := by
  unfold withP
  have := (List.perm_middle (a := s) (l₁ := l.take (placeAt s.at_ l)) (l₂ := l.drop (placeAt s.at_ l)))
  rwa [List.take_append_drop] at this
theorem without_strict {l : List Step} (i : Nat) (h : strictL l) : strictL (withoutP l i) := h.sublist (without_sub l i)
/-- Insert and delete of one step: the line is what it was, and the spans are the same. -/
theorem there_and_back {k : Int} {l : List Step} {s : Step} (hl : isLineP k l = true) (hs : s ∈ l) :
    ∃ less ds, deleteP k l s.at_ = ((k, less), ds, 0) ∧ insertP k less s = ((k, l), ds, 0) := by
  have hst := line_strict hl
  obtain ⟨hh, hx⟩ := has_of hst hs
  have hperm := without_perm hx
  have hws := without_strict (placeAt s.at_ l) hst
  have hwl := isLineP_without (placeAt s.at_ l) hl
  have hne : hasP (withoutP l (placeAt s.at_ l)) s.at_ = false := by
    cases h : hasP (withoutP l (placeAt s.at_ l)) s.at_ with
    | false => rfl
    | true =>
      obtain ⟨x, hx1, hx2⟩ := has_mem h
      have hn : (l.map Step.at_).Nodup := List.nodup_iff_pairwise_ne.2 (List.pairwise_map.2 (hst.imp fun h => by omega))
      have := (hperm.map Step.at_).nodup_iff.1 hn
      rw [List.map_cons, List.nodup_cons] at this
      have hm := List.mem_map_of_mem (f := Step.at_) hx1
      rw [hx2] at hm
      exact absurd hm this.1
  have hback : withP (withoutP l (placeAt s.at_ l)) s = l :=
    strict_eq (with_strict hws hne) hst fun x => by rw [(with_perm _ s).mem_iff, hperm.mem_iff]
  have hlen := hperm.length_eq
  have h60 := (isLineP_spec hl).2.2.1
  rw [List.length_cons] at hlen
  refine ⟨_, _, by unfold deleteP; rw [if_pos hl, if_pos hh], ?_⟩
  unfold insertP
  rw [if_pos (by rw [hwl, (isLineP_spec hl).2.2.2.1 s hs]; rfl), if_neg (by rw [hne]; simp), if_neg (by omega), hback, diffOf_comm]
/-- What is inserted, and what is left: together they are the line. -/
structure Part (k : Int) (l out left : List Step) : Prop where
  perm : (out ++ left).Perm l
  strict : strictL out
theorem Part.line {k : Int} {l out left : List Step} (h : Part k l out left) (hl : isLineP k l = true) : isLineP k out = true := by
  have hs := isLineP_spec hl
  have := h.perm.length_eq
  rw [List.length_append] at this
  exact isLineP_mk hs.1 hs.2.1 (by omega) (fun x hx => hs.2.2.2.1 x (h.perm.mem_iff.1 (List.mem_append.2 (.inl hx)))) h.strict
theorem Part.step {k : Int} {l out left : List Step} (h : Part k l out left) (hl : isLineP k l = true) {i : Nat} {s : Step} (hs : left[i]? = some s) :
    (∃ ds, insertP k out s = ((k, withP out s), ds, 0)) ∧ Part k l (withP out s) (withoutP left i) := by
  have hsp := isLineP_spec hl
  have hmem := List.mem_of_getElem? hs
  have hlen := h.perm.length_eq
  rw [List.length_append] at hlen
  have hpos : 0 < left.length := by have := (List.getElem?_eq_some_iff.1 hs).1; omega
  have hne : hasP out s.at_ = false := by
    cases hh : hasP out s.at_ with
    | false => rfl
    | true =>
      obtain ⟨x, hx1, hx2⟩ := has_mem hh
      have hn : (l.map Step.at_).Nodup := List.nodup_iff_pairwise_ne.2 (List.pairwise_map.2 ((line_strict hl).imp fun h => by omega))
      have := (h.perm.map Step.at_).nodup_iff.2 hn
      rw [List.map_append, List.nodup_append] at this
      exact absurd hx2 (this.2.2 _ (List.mem_map_of_mem hx1) _ (List.mem_map_of_mem hmem))
  refine ⟨⟨diffOf k out (withP out s), ?_⟩, ?_, with_strict h.strict hne⟩
  · unfold insertP
    rw [if_pos (by rw [h.line hl, hsp.2.2.2.1 s (h.perm.mem_iff.1 (List.mem_append.2 (.inr hmem)))]; rfl), if_neg (by rw [hne]; simp), if_neg (by omega)]
  · refine List.Perm.trans ?_ h.perm
    have h1 := (with_perm out s).append_right (withoutP left i)
    have h2 := ((without_perm hs).symm).append_left out
    exact h1.trans ((List.perm_middle (a := s) (l₁ := out) (l₂ := withoutP left i)).symm.trans h2)
theorem Part.done {k : Int} {l out : List Step} (h : Part k l out []) (hl : isLineP k l = true) : out = l :=
  strict_eq h.strict (line_strict hl) fun x => by have := h.perm.mem_iff (a := x); rwa [List.append_nil] at this
end Go.Proofs.YtkoeplbkeboklaaGreat
/- The plain side of retro: what is there at a time is what lives then. No program in sight. -/
set_option linter.unusedVariables false
set_option linter.unusedSimpArgs false
namespace Go.Proofs.YtkoeplbkeboklaaGreat
def heldL (x : Life) : Held := ⟨x.key, x.val, x.from_⟩
def liveAt (t : Int) (x : Life) : Bool := decide (x.from_ ≤ t) && decide (t < x.to_)
def open_ (x : Life) : Bool := x.to_ == 1001
/-- What holds between what is there and the lives so far, behind all steps up to b. -/
structure Inv (k : Int) (th : List Held) (out : List Life) (b : Int) : Prop where
  each : ∀ x ∈ out, 0 ≤ x.from_ ∧ x.from_ ≤ b ∧ x.from_ ≤ 1000 ∧ (x.to_ = 1001 ∨ (x.from_ < x.to_ ∧ x.to_ ≤ b ∧ x.to_ ≤ 1000))
  inc : out.Pairwise fun x y => x.from_ < y.from_
  same : k ≠ 3 → th = (out.filter open_).map heldL
  perm : k = 3 → th.Perm ((out.filter open_).map heldL) ∧ sortH th
theorem Inv.start (k b : Int) : Inv k [] [] b := ⟨fun x h => by simp at h, .nil, fun _ => rfl, fun _ => ⟨.refl _, .nil⟩⟩
theorem Inv.later {k : Int} {th : List Held} {out : List Life} {b c : Int} (h : Inv k th out b) (hb : b ≤ c) : Inv k th out c :=
  ⟨fun x hx => by have := h.each x hx; omega, h.inc, h.same, h.perm⟩
theorem Inv.mem {k : Int} {th : List Held} {out : List Life} {b : Int} (h : Inv k th out b) {y : Held} : y ∈ th ↔ ∃ x ∈ out, x.to_ = 1001 ∧ heldL x = y := by
  have e : y ∈ th ↔ y ∈ (out.filter open_).map heldL := by
    by_cases hk : k = 3
    · exact (h.perm hk).1.mem_iff
    · rw [h.same hk]
  rw [e]
  simp [open_, and_assoc]
theorem inc_unique {out : List Life} (h : out.Pairwise fun x y => x.from_ < y.from_) {x y : Life} (hx : x ∈ out) (hy : y ∈ out) (he : x.from_ = y.from_) : x = y := by
  obtain ⟨i, hi, rfl⟩ := List.getElem_of_mem hx
  obtain ⟨j, hj, rfl⟩ := List.getElem_of_mem hy
  have := List.pairwise_iff_getElem.1 h
  rcases Nat.lt_trichotomy i j with h1 | h1 | h1
  · have := this i j hi hj h1; omega
  · subst h1; rfl
  · have := this j i hj hi h1; omega
theorem Inv.nodup {k : Int} {th : List Held} {out : List Life} {b : Int} (h : Inv k th out b) : (th.map Held.from_).Nodup := by
  have hp : (((out.filter open_).map heldL).map Held.from_).Nodup := by
    rw [List.map_map]
    exact List.nodup_iff_pairwise_ne.2 (List.pairwise_map.2 ((h.inc.filter _).imp fun h => by simp only [Function.comp, heldL]; omega))
  by_cases hk : k = 3
  · exact ((h.perm hk).1.map Held.from_).nodup_iff.2 hp
  · rw [h.same hk]; exact hp
theorem Inv.from_ {k : Int} {th : List Held} {out : List Life} {b : Int} (h : Inv k th out b) {y : Held} (hy : y ∈ th) : 0 ≤ y.from_ ∧ y.from_ ≤ b := by
  obtain ⟨x, hx, _, rfl⟩ := h.mem.1 hy
  have := h.each x hx
  exact ⟨this.1, this.2.1⟩
theorem filter_last {th : List Held} {y : Held} (h : ((th ++ [y]).map Held.from_).Nodup) : (th ++ [y]).filter (fun x => x.from_ != y.from_) = th := by
  rw [List.filter_append]
  have : [y].filter (fun x => x.from_ != y.from_) = [] := by simp
  rw [this, List.append_nil]
  refine List.filter_eq_self.2 fun x hx => ?_
  rw [List.map_append, List.nodup_append] at h
  exact bne_iff_ne.2 (h.2.2 _ (List.mem_map_of_mem hx) _ (by simp))
theorem filter_head {th : List Held} {y : Held} (h : ((y :: th).map Held.from_).Nodup) : (y :: th).filter (fun x => x.from_ != y.from_) = th := by
  rw [List.filter_cons]
  simp only [bne_self_eq_false, Bool.false_eq_true, if_false]
  rw [List.map_cons, List.nodup_cons] at h
  exact List.filter_eq_self.2 fun x hx => bne_iff_ne.2 fun e => h.1 (e ▸ List.mem_map_of_mem hx)
/-- What a step leaves: all but the one that it takes. -/
theorem doP_rest {k : Int} {th : List Held} {s : Step} (hk : 1 ≤ k ∧ k ≤ 3) (hd : s.do_ = 1 ∨ s.do_ = 2) (hn : (th.map Held.from_).Nodup) (h0 : ∀ y ∈ th, 0 ≤ y.from_) (hs : k = 3 → sortH th) :
    (doP k th s).1 = (if s.do_ = 1 then (if k = 3 then insH (heldOf s) (th.filter fun x => x.from_ != (doP k th s).2.from_) else (th.filter fun x => x.from_ != (doP k th s).2.from_) ++ [heldOf s]) else th.filter fun x => x.from_ != (doP k th s).2.from_) ∧
    ((doP k th s).2 = noneH ∨ (doP k th s).2 ∈ th) := by
  have hall : th.filter (fun x => x.from_ != noneH.from_) = th := List.filter_eq_self.2 fun x hx => bne_iff_ne.2 (by have := h0 x hx; show x.from_ ≠ -1; omega)
  by_cases h1 : k = 1
  · subst h1
    have e : doP 1 th s = stackDo th s := by simp [doP]
    rw [e]
    unfold stackDo
    by_cases hdo : s.do_ = 1
    · rw [if_pos hdo]
      dsimp only
      rw [if_pos hdo, if_neg (by decide), hall]
      exact ⟨rfl, .inl rfl⟩
    · rw [if_neg hdo]
      rcases List.eq_nil_or_concat th with rfl | ⟨l, y, rfl⟩
      · dsimp only [List.getLast?_nil]
        rw [if_neg hdo]
        exact ⟨rfl, .inl rfl⟩
      · rw [List.concat_eq_append] at *
        have hl : (l ++ [y]).getLast? = some y := by simp
        rw [hl]
        dsimp only
        rw [if_neg hdo, filter_last hn]
        refine ⟨?_, .inr (by simp)⟩
        rw [List.length_append, List.length_singleton, Nat.add_sub_cancel, List.take_left]
  · by_cases h2 : k = 2
    · subst h2
      have e : doP 2 th s = queueDo th s := by simp [doP]
      rw [e]
      unfold queueDo
      by_cases hdo : s.do_ = 1
      · rw [if_pos hdo]
        dsimp only
        rw [if_pos hdo, if_neg (by decide), hall]
        exact ⟨rfl, .inl rfl⟩
      · rw [if_neg hdo]
        cases th with
        | nil => dsimp only; rw [if_neg hdo]; exact ⟨rfl, .inl rfl⟩
        | cons y l =>
          dsimp only
          rw [if_neg hdo, filter_head hn]
          exact ⟨rfl, .inr (by simp)⟩
    · have h3 : k = 3 := by omega
      subst h3
      have e : doP 3 th s = mapDo th s := by simp [doP]
      rw [e]
      unfold mapDo
      dsimp only
      have hf : (th.filter fun h => h.key != s.key) = th.filter (fun x => x.from_ != ((th.find? fun h => h.key == s.key).getD noneH).from_) := by
        cases hfind : th.find? fun h => h.key == s.key with
        | none =>
          rw [Option.getD_none, hall]
          refine List.filter_eq_self.2 fun x hx => ?_
          have := List.find?_eq_none.1 hfind x hx
          simpa using this
        | some y =>
          rw [Option.getD_some]
          have hy := List.mem_of_find?_eq_some hfind
          have hyk : y.key = s.key := by have := List.find?_some hfind; simpa using this
          refine List.filter_congr fun x hx => ?_
          rw [← hyk, Bool.eq_iff_iff, bne_iff_ne, bne_iff_ne]
          have uk : x.key = y.key → x = y := fun he => by
            have hp := hs rfl
            obtain ⟨i, hi, rfl⟩ := List.getElem_of_mem hx
            obtain ⟨j, hj, rfl⟩ := List.getElem_of_mem hy
            have := List.pairwise_iff_getElem.1 hp
            rcases Nat.lt_trichotomy i j with q | q | q
            · have := this i j hi hj q; omega
            · subst q; rfl
            · have := this j i hj hi q; omega
          have uf : x.from_ = y.from_ → x = y := fun he => by
            obtain ⟨i, hi, rfl⟩ := List.getElem_of_mem hx
            obtain ⟨j, hj, rfl⟩ := List.getElem_of_mem hy
            have := List.pairwise_iff_getElem.1 (List.nodup_iff_pairwise_ne.1 hn)
            simp only [List.getElem_map, List.length_map] at this
            rcases Nat.lt_trichotomy i j with q | q | q
            · exact absurd he (this i j hi hj q)
            · subst q; rfl
            · exact absurd he.symm (this j i hj hi q)
          exact ⟨fun h h2 => h (by rw [uf h2]), fun h h2 => h (by rw [uk h2])⟩
      refine ⟨?_, ?_⟩
      · rw [← hf]; simp
      · cases hfind : th.find? fun h => h.key == s.key with
        | none => exact .inl rfl
        | some y => exact .inr (List.mem_of_find?_eq_some hfind)
theorem closed_open {out : List Life} {f a : Int} (ha : a ≠ 1001) : (out.map (closeL f a)).filter open_ = (out.filter open_).filter fun x => x.from_ != f := by
  induction out with
  | nil => rfl
  | cons x l ih =>
    rw [List.map_cons, List.filter_cons, List.filter_cons, ih]
    by_cases hf : x.from_ = f
    · have e : closeL f a x = { x with to_ := a } := by simp [closeL, hf]
      have e2 : open_ (closeL f a x) = false := by rw [e]; simp [open_, ha]
      rw [e2]
      cases h : open_ x with
      | true => simp [List.filter_cons, hf]
      | false => simp
    · have e : closeL f a x = x := by simp [closeL, hf]
      rw [e]
      cases h : open_ x with
      | true => simp [List.filter_cons, hf]
      | false => simp
theorem insH_perm2 (h : Held) : ∀ l : List Held, (insH h l).Perm (h :: l)
  | [] => .refl _
  | x :: l => by
    simp only [insH]
    split
    · exact .refl _
    · exact ((insH_perm2 h l).cons x).trans (.swap _ _ _)
/-- The lives behind a step. -/
def nextOut (k : Int) (th : List Held) (out : List Life) (s : Step) : List Life := out.map (closeL (doP k th s).2.from_ s.at_) ++ if s.do_ = 1 then [⟨s.at_, 1001, s.key, s.val⟩] else []
theorem Inv.taken {k : Int} {th : List Held} {out : List Life} {b : Int} (h : Inv k th out b) {s : Step} (hk : 1 ≤ k ∧ k ≤ 3) (hd : s.do_ = 1 ∨ s.do_ = 2) : ∀ x ∈ out, x.from_ = (doP k th s).2.from_ → x.to_ = 1001 ∧ heldL x = (doP k th s).2 := fun x hx he => by
  rcases (doP_rest hk hd h.nodup (fun y hy => (h.from_ hy).1) fun h3 => (h.perm h3).2).2 with h1 | h1
  · rw [h1] at he
    have := (h.each x hx).1
    have e : noneH.from_ = -1 := rfl
    omega
  · obtain ⟨y, hy, hy1, hy2⟩ := h.mem.1 h1
    have := inc_unique h.inc hx hy (by rw [he, ← hy2]; rfl)
    subst this
    exact ⟨hy1, hy2⟩
theorem Inv.step {k : Int} {th : List Held} {out : List Life} {b : Int} (h : Inv k th out b) {s : Step} (hk : 1 ≤ k ∧ k ≤ 3) (hd : s.do_ = 1 ∨ s.do_ = 2) (hb : b < s.at_) (h0 : 0 ≤ s.at_) (ht : s.at_ ≤ 1000) : Inv k (doP k th s).1 (nextOut k th out s) s.at_ := by
  obtain ⟨hr, _⟩ := doP_rest hk hd h.nodup (fun y hy => (h.from_ hy).1) fun h3 => (h.perm h3).2
  have hop : (nextOut k th out s).filter open_ = ((out.filter open_).filter fun x => x.from_ != (doP k th s).2.from_) ++ if s.do_ = 1 then [⟨s.at_, 1001, s.key, s.val⟩] else [] := by
    unfold nextOut
    rw [List.filter_append, closed_open (by omega)]
    congr 1
    split <;> simp [open_]
  have hmap : (((out.filter open_).filter fun x => x.from_ != (doP k th s).2.from_) ++ if s.do_ = 1 then [(⟨s.at_, 1001, s.key, s.val⟩ : Life)] else []).map heldL = (((out.filter open_).map heldL).filter fun x => x.from_ != (doP k th s).2.from_) ++ if s.do_ = 1 then [heldOf s] else [] := by
    rw [List.map_append, List.filter_map]
    congr 1
    split <;> rfl
  refine ⟨fun x hx => ?_, ?_, fun h3 => ?_, fun h3 => ⟨?_, doP_sort s (fun h3 => (h.perm h3).2) hk h3⟩⟩
  · unfold nextOut at hx
    rcases List.mem_append.1 hx with hx | hx
    · obtain ⟨y, hy, rfl⟩ := List.mem_map.1 hx
      have := h.each y hy
      unfold closeL
      split
      · exact ⟨this.1, by show y.from_ ≤ s.at_; omega, this.2.2.1, .inr ⟨by show y.from_ < s.at_; omega, by show s.at_ ≤ s.at_; omega, ht⟩⟩
      · exact ⟨this.1, by omega, this.2.2.1, by omega⟩
    · split at hx
      · simp at hx; subst hx; exact ⟨h0, by show s.at_ ≤ s.at_; omega, ht, .inl rfl⟩
      · simp at hx
  · unfold nextOut
    refine List.pairwise_append.2 ⟨List.pairwise_map.2 (h.inc.imp fun h => by unfold closeL; split <;> split <;> exact h), by split <;> simp, fun x hx y hy => ?_⟩
    obtain ⟨z, hz, rfl⟩ := List.mem_map.1 hx
    split at hy
    · simp at hy; subst hy
      have := (h.each z hz).2.1
      unfold closeL
      split <;> (show z.from_ < s.at_; omega)
    · simp at hy
  · rw [hop, hmap, hr, ← h.same h3]
    split
    · first | rfl | rw [if_neg h3]
    · simp
  · rw [hop, hmap, hr]
    have hp := (h.perm h3).1.filter fun x => x.from_ != (doP k th s).2.from_
    split
    · try rw [if_pos h3]
      exact (insH_perm2 _ _).trans (((hp.cons _)).trans (List.perm_append_comm (l₁ := [heldOf s])))
    · rw [List.append_nil]; exact hp
theorem nextOut_live {k : Int} {th : List Held} {out : List Life} {b t : Int} (h : Inv k th out b) {s : Step} (hk : 1 ≤ k ∧ k ≤ 3) (hd : s.do_ = 1 ∨ s.do_ = 2) (ht : t < s.at_) (ht2 : t ≤ 1000) :
    ((nextOut k th out s).filter (liveAt t)).map heldL = (out.filter (liveAt t)).map heldL := by
  unfold nextOut
  rw [List.filter_append]
  have e1 : (if s.do_ = 1 then [(⟨s.at_, 1001, s.key, s.val⟩ : Life)] else []).filter (liveAt t) = [] := by
    split
    · have : liveAt t ⟨s.at_, 1001, s.key, s.val⟩ = false := by simp [liveAt]; omega
      simp [List.filter_cons, this]
    · rfl
  rw [e1, List.append_nil]
  have hc := fun x hx => h.taken (s := s) hk hd x hx
  generalize (doP k th s).2.from_ = f at *
  clear h e1
  induction out with
  | nil => rfl
  | cons x l ih =>
    have ih := ih fun y hy => hc y (by simp [hy])
    have e : liveAt t (closeL f s.at_ x) = liveAt t x ∧ heldL (closeL f s.at_ x) = heldL x := by
      unfold closeL
      split
      · rename_i hf
        have := (hc x (by simp) hf).1
        refine ⟨?_, rfl⟩
        simp only [liveAt, this]
        rw [decide_eq_true (show t < s.at_ from ht), decide_eq_true (show t < 1001 by omega)]
      · exact ⟨rfl, rfl⟩
    rw [List.map_cons, List.filter_cons, List.filter_cons, e.1]
    split
    · rw [List.map_cons, List.map_cons, ih, e.2]
    · exact ih
theorem later_live {k : Int} (hk : 1 ≤ k ∧ k ≤ 3) {t : Int} (ht2 : t ≤ 1000) : ∀ (l : List Step) {th : List Held} {out : List Life} {b : Int}, Inv k th out b → (∀ s ∈ l, (s.do_ = 1 ∨ s.do_ = 2) ∧ 0 ≤ s.at_ ∧ s.at_ ≤ 1000) → strictL l → (∀ s ∈ l, b < s.at_ ∧ t < s.at_) →
    ((livesFrom k th out l).filter (liveAt t)).map heldL = (out.filter (liveAt t)).map heldL
  | [], th, out, b, h, _, _, _ => rfl
  | s :: l, th, out, b, h, hf, hs, hb => by
    have h1 := hf s (by simp)
    have h2 := hb s (by simp)
    have hs' := List.pairwise_cons.1 hs
    rw [livesFrom]
    have := later_live hk ht2 l (h.step hk h1.1 h2.1 h1.2.1 h1.2.2) (fun x hx => hf x (by simp [hx])) hs'.2 fun x hx => ⟨hs'.1 x hx, (hb x (by simp [hx])).2⟩
    exact this.trans (nextOut_live h hk h1.1 h2.2 ht2)
/-- What is there at t, and the lives that last then. -/
def Alike (k : Int) (th : List Held) (ls : List Held) : Prop := (k ≠ 3 → th = ls) ∧ (k = 3 → th.Perm ls ∧ sortH th)
theorem run_lives0 {k : Int} {t : Int} (ht2 : t ≤ 1000) {th : List Held} {out : List Life} {b : Int} (h : Inv k th out b) (hbt : b ≤ t) : Alike k th ((out.filter (liveAt t)).map heldL) := by
  have e : out.filter (liveAt t) = out.filter open_ := List.filter_congr fun x hx => by
    have := h.each x hx
    rw [Bool.eq_iff_iff]
    simp only [liveAt, open_, Bool.and_eq_true, decide_eq_true_eq, beq_iff_eq]
    omega
  rw [e]
  exact ⟨h.same, h.perm⟩
theorem run_lives {k : Int} (hk : 1 ≤ k ∧ k ≤ 3) {t : Int} (ht2 : t ≤ 1000) : ∀ (l : List Step) {th : List Held} {out : List Life} {b : Int}, Inv k th out b → (∀ s ∈ l, (s.do_ = 1 ∨ s.do_ = 2) ∧ 0 ≤ s.at_ ∧ s.at_ ≤ 1000) → strictL l → (∀ s ∈ l, b < s.at_) → b ≤ t →
    Alike k (l.foldl (stepT k t) th) (((livesFrom k th out l).filter (liveAt t)).map heldL)
  | [], th, out, b, h, _, _, _, hbt => run_lives0 ht2 h hbt
  | s :: l, th, out, b, h, hf, hs, hb, hbt => by
    have h1 := hf s (by simp)
    have h2 := hb s (by simp)
    have hs' := List.pairwise_cons.1 hs
    by_cases hle : s.at_ ≤ t
    · have := run_lives hk ht2 l (h.step hk h1.1 h2 h1.2.1 h1.2.2) (fun x hx => hf x (by simp [hx])) hs'.2 (fun x hx => hs'.1 x hx) hle
      rw [List.foldl_cons, livesFrom, show stepT k t th s = (doP k th s).1 by unfold stepT; rw [if_pos hle]]
      exact this
    · have hno : ∀ (m : List Step), (∀ x ∈ m, t < x.at_) → m.foldl (stepT k t) th = th := by
        intro m
        induction m with
        | nil => intro _; rfl
        | cons x m ih => intro hm; rw [List.foldl_cons, show stepT k t th x = th by unfold stepT; rw [if_neg (by have := hm x (by simp); omega)]]; exact ih fun y hy => hm y (by simp [hy])
      have hall : ∀ x ∈ s :: l, t < x.at_ := fun x hx => by
        rcases List.mem_cons.1 hx with rfl | hx
        · omega
        · have := hs'.1 x hx; omega
      rw [hno _ hall, later_live hk ht2 (s :: l) h hf hs fun x hx => ⟨hb x hx, hall x hx⟩]
      exact run_lives0 ht2 h hbt
theorem isStep_do {k : Int} {s : Step} (h : isStepP k s = true) : (s.do_ = 1 ∨ s.do_ = 2) ∧ 0 ≤ s.at_ ∧ s.at_ ≤ 1000 := by
  unfold isStepP at h
  split at h
  · rename_i hw
    simp only [withinP, Bool.and_eq_true, decide_eq_true_eq] at hw
    split at h
    · cases h
    · simp only [Bool.or_eq_true, beq_iff_eq, Bool.and_eq_true] at h
      exact ⟨h.elim .inl fun h => .inr h.1, hw.1.1⟩
  · cases h
theorem state_lives {k : Int} {l : List Step} (hl : isLineP k l = true) {t : Int} (ht : t ≤ 1000) : Alike k (runP k t l) (((livesOf k l).filter (liveAt t)).map heldL) := by
  have hs := isLineP_spec hl
  have hf := fun s hx => isStep_do (hs.2.2.2.1 s hx)
  exact run_lives ⟨hs.1, hs.2.1⟩ ht l (Inv.start k (min t (-1))) hf (line_strict hl) (fun s hx => by have := (hf s hx).2.1; omega) (by omega)
end Go.Proofs.YtkoeplbkeboklaaGreat
/- The plain side of RetroLived: how lives lie to each other. No program in sight. -/
set_option linter.unusedVariables false
set_option linter.unusedSimpArgs false
namespace Go.Proofs.YtkoeplbkeboklaaGreat
/-- How an earlier life y lies to a later one x. -/
def liesTo (k : Int) (y x : Life) : Prop := (k = 1 → ¬ (x.from_ < y.to_ ∧ y.to_ < x.to_)) ∧ (k = 2 → ¬ x.to_ < y.to_)
/-- A step keeps it, if what it takes is the last (first) that is open. -/
theorem lies_step {k f at_ b : Int} {out : List Life} (h : out.Pairwise (liesTo k)) (hb : b < at_) (hat : at_ ≤ 1000)
    (he : ∀ x ∈ out, x.from_ ≤ b ∧ (x.to_ = 1001 ∨ x.to_ ≤ b)) (hinc : out.Pairwise fun x y => x.from_ < y.from_)
    (ht : ∀ x ∈ out, x.from_ = f → x.to_ = 1001)
    (h1 : k = 1 → ∀ x ∈ out, x.to_ = 1001 → (∃ y ∈ out, y.from_ = f) → x.from_ ≤ f)
    (h2 : k = 2 → ∀ x ∈ out, x.to_ = 1001 → (∃ y ∈ out, y.from_ = f) → f ≤ x.from_) :
    (out.map (closeL f at_)).Pairwise (liesTo k) := by
  rw [List.pairwise_map]
  refine (List.Pairwise.and_mem.1 (h.and hinc)).imp ?_
  rintro y x ⟨hy, hx, ⟨l1, l2⟩, hlt⟩
  have ey := he y hy
  have ex := he x hx
  unfold closeL
  refine ⟨fun hk => ?_, fun hk => ?_⟩
  · have l1 := l1 hk
    have a1 := fun hz => h1 hk x hx hz
    split <;> split
    · omega
    · rename_i hxf hyf
      show ¬ (x.from_ < y.to_ ∧ y.to_ < at_)
      have := ht x hx hxf
      omega
    · rename_i hxf hyf
      show ¬ (x.from_ < at_ ∧ at_ < x.to_)
      rintro ⟨_, h4⟩
      have hxo : x.to_ = 1001 := by omega
      have := a1 hxo ⟨y, hy, hyf⟩
      omega
    · exact l1
  · have l2 := l2 hk
    have a2 := fun hz => h2 hk y hy hz
    split <;> split
    · omega
    · rename_i hxf hyf
      show ¬ at_ < y.to_
      intro h4
      have hyo : y.to_ = 1001 := by omega
      have := a2 hyo ⟨x, hx, hxf⟩
      omega
    · rename_i hxf hyf
      show ¬ x.to_ < at_
      have := ht y hy hyf
      omega
    · exact l2
end Go.Proofs.YtkoeplbkeboklaaGreat
/- The plain side of RetroLived: lives never cross (stack), first in goes first (queue). No program in sight. -/
set_option linter.unusedVariables false
set_option linter.unusedSimpArgs false
namespace Go.Proofs.YtkoeplbkeboklaaGreat
theorem Inv.incH {k : Int} {th : List Held} {out : List Life} {b : Int} (h : Inv k th out b) (h3 : k ≠ 3) : th.Pairwise fun x y => x.from_ < y.from_ := by
  rw [h.same h3]
  exact List.pairwise_map.2 ((h.inc.filter _).imp fun h => h)
theorem lies_next {k : Int} {th : List Held} {out : List Life} {b : Int} (h : Inv k th out b) {s : Step} (hl : out.Pairwise (liesTo k)) (hk : 1 ≤ k ∧ k ≤ 3) (hd : s.do_ = 1 ∨ s.do_ = 2) (hb : b < s.at_) (ht : s.at_ ≤ 1000) : (nextOut k th out s).Pairwise (liesTo k) := by
  have hno : (∃ y ∈ out, y.from_ = (doP k th s).2.from_) → (doP k th s).2 ∈ th := by
    rintro ⟨y, hy, he⟩
    obtain ⟨h1, h2⟩ := h.taken hk hd y hy he
    exact h.mem.2 ⟨y, hy, h1, h2⟩
  unfold nextOut
  refine List.pairwise_append.2 ⟨lies_step hl hb ht (fun x hx => by have := h.each x hx; omega) h.inc (fun x hx he => (h.taken hk hd x hx he).1) ?_ ?_, by split <;> simp, fun x hx y hy => ?_⟩
  · rintro rfl x hx hxo hy
    have hm := h.mem.2 ⟨x, hx, hxo, rfl⟩
    have hin := hno hy
    have hp := h.incH (by decide)
    have e : (doP 1 th s).2 = (stackDo th s).2 := rfl
    rw [e] at hin ⊢
    unfold stackDo at hin ⊢
    split at hin
    · have := (h.from_ hin).1
      have e1 : noneH.from_ = -1 := rfl
      simp only [e1] at this; omega
    · split at hin
      · rename_i y hg
        obtain ⟨l', rfl⟩ : ∃ l', th = l' ++ [y] := by
          rcases List.eq_nil_or_concat th with rfl | ⟨l', z, rfl⟩
          · simp at hg
          · rw [List.concat_eq_append] at hg ⊢
            simp at hg
            exact ⟨l', by rw [hg]⟩
        simp only [*, if_false]
        rcases List.mem_append.1 hm with h1 | h1
        · have := (List.pairwise_append.1 hp).2.2 _ h1 y (by simp)
          have e2 : (heldL x).from_ = x.from_ := rfl
          simp; omega
        · simp at h1; rw [← h1]; simp [heldL]
      · have := (h.from_ hin).1
        have e1 : noneH.from_ = -1 := rfl
        simp only [e1] at this; omega
  · rintro rfl x hx hxo hy
    have hm := h.mem.2 ⟨x, hx, hxo, rfl⟩
    have hin := hno hy
    have hp := h.incH (by decide)
    have e : (doP 2 th s).2 = (queueDo th s).2 := rfl
    rw [e] at hin ⊢
    unfold queueDo at hin ⊢
    split at hin
    · have := (h.from_ hin).1
      have e1 : noneH.from_ = -1 := rfl
      simp only [e1] at this; omega
    · cases th with
      | nil => simp at hin
      | cons y l' =>
        simp only [*, if_false]
        rcases List.mem_cons.1 hm with h1 | h1
        · rw [← h1]; simp [heldL]
        · have := (List.pairwise_cons.1 hp).1 _ h1
          have e2 : (heldL x).from_ = x.from_ := rfl
          simp; omega
  · obtain ⟨z, hz, rfl⟩ := List.mem_map.1 hx
    split at hy
    · simp at hy; subst hy
      have := h.each z hz
      unfold closeL liesTo
      split
      · exact ⟨fun _ => by show ¬ (s.at_ < s.at_ ∧ _); omega, fun _ => by show ¬ (1001 < s.at_); omega⟩
      · exact ⟨fun _ => by show ¬ (s.at_ < z.to_ ∧ z.to_ < 1001); omega, fun _ => by show ¬ (1001 < z.to_); omega⟩
    · simp at hy
theorem lives_from {k : Int} (hk : 1 ≤ k ∧ k ≤ 3) : ∀ (l : List Step) {th : List Held} {out : List Life} {b : Int}, Inv k th out b → out.Pairwise (liesTo k) → (∀ s ∈ l, (s.do_ = 1 ∨ s.do_ = 2) ∧ 0 ≤ s.at_ ∧ s.at_ ≤ 1000) → strictL l → (∀ s ∈ l, b < s.at_) → ∃ th' b', Inv k th' (livesFrom k th out l) b' ∧ (livesFrom k th out l).Pairwise (liesTo k)
  | [], th, out, b, h, hl, _, _, _ => ⟨th, b, h, hl⟩
  | s :: l, th, out, b, h, hl, hs, hst, hb => by
    obtain ⟨hd, h0, ht⟩ := hs s (by simp)
    obtain ⟨p1, p2⟩ := List.pairwise_cons.1 hst
    have hbs := hb s (by simp)
    exact lives_from hk l (h.step hk hd hbs h0 ht) (lies_next h hl hk hd hbs ht) (fun x hx => hs x (List.mem_cons_of_mem _ hx)) p2 fun x hx => p1 x hx
/-- The lives of a line: each begins ahead of its end, they begin in order, and none crosses. -/
theorem lives_lie {k : Int} {l : List Step} (hl : isLineP k l = true) : (∀ x ∈ livesOf k l, x.from_ < x.to_) ∧ ((livesOf k l).Pairwise fun x y => x.from_ < y.from_) ∧ (livesOf k l).Pairwise (liesTo k) := by
  have hs := isLineP_spec hl
  obtain ⟨th, b, h, h2⟩ := lives_from ⟨hs.1, hs.2.1⟩ l (Inv.start k (-1)) .nil (fun s hx => isStep_do (hs.2.2.2.1 s hx)) (line_strict hl) fun s hx => by have := (isStep_do (hs.2.2.2.1 s hx)).2; omega
  exact ⟨fun x hx => by have := h.each x hx; omega, h.inc, h2⟩
end Go.Proofs.YtkoeplbkeboklaaGreat
/- The plain side of RetroLived: what an Out takes is what it ends the life of. No program in sight. -/
set_option linter.unusedVariables false
set_option linter.unusedSimpArgs false
namespace Go.Proofs.YtkoeplbkeboklaaGreat
/-- From the life whose end is at a time; -1 if there is none. -/
def endsAt (out : List Life) (a : Int) : Int := match out.find? fun x => x.to_ == a with
  | some x => x.from_
  | none => -1
theorem find_map_close {f at_ a : Int} (h : a ≠ at_) : ∀ {out : List Life}, (∀ x ∈ out, x.from_ = f → x.to_ ≠ a) → endsAt (out.map (closeL f at_)) a = endsAt out a
  | [], _ => rfl
  | x :: out, hx => by
    have ih := find_map_close h (out := out) fun y hy => hx y (List.mem_cons_of_mem _ hy)
    unfold endsAt at ih ⊢
    rw [List.map_cons, List.find?_cons, List.find?_cons]
    by_cases hf : x.from_ = f
    · have h1 := hx x (by simp) hf
      have e : closeL f at_ x = { x with to_ := at_ } := by simp [closeL, hf]
      rw [e]
      have : ((({ x with to_ := at_ } : Life).to_) == a) = false := by simp; exact fun h2 => h h2.symm
      rw [this, show (x.to_ == a) = false by simp [h1]]
      exact ih
    · have e : closeL f at_ x = x := by simp [closeL, hf]
      rw [e]
      cases x.to_ == a with
      | true => rfl
      | false => exact ih
/-- The steps behind leave the ends before them as they are. -/
theorem ends_keep {k : Int} (hk : 1 ≤ k ∧ k ≤ 3) {a : Int} (ha : a ≤ 1000) : ∀ (l : List Step) {th : List Held} {out : List Life} {b : Int}, Inv k th out b → (∀ s ∈ l, (s.do_ = 1 ∨ s.do_ = 2) ∧ 0 ≤ s.at_ ∧ s.at_ ≤ 1000) → strictL l → (∀ s ∈ l, b < s.at_ ∧ a < s.at_) → endsAt (livesFrom k th out l) a = endsAt out a
  | [], th, out, b, h, _, _, _ => rfl
  | s :: l, th, out, b, h, hs, hst, hb => by
    obtain ⟨hd, h0, ht⟩ := hs s (by simp)
    obtain ⟨p1, p2⟩ := List.pairwise_cons.1 hst
    obtain ⟨hbs, has⟩ := hb s (by simp)
    have ih := ends_keep hk ha l (h.step hk hd hbs h0 ht) (fun x hx => hs x (List.mem_cons_of_mem _ hx)) p2 fun x hx => ⟨p1 x hx, (hb x (List.mem_cons_of_mem _ hx)).2⟩
    rw [livesFrom]
    refine ih.trans ?_
    have h1 := find_map_close (f := (doP k th s).2.from_) (at_ := s.at_) (a := a) (by omega) (out := out) fun x hx he => by
      have := (h.taken hk hd x hx he).1; omega
    rw [← h1]
    unfold nextOut endsAt
    rw [List.find?_append]
    have h2 : (if s.do_ = 1 then [(⟨s.at_, 1001, s.key, s.val⟩ : Life)] else []).find? (fun x => x.to_ == a) = none := by
      split
      · simp; omega
      · rfl
    rw [h2, Option.or_none]
theorem ends_new {k : Int} {th : List Held} {out : List Life} {b : Int} (h : Inv k th out b) {s : Step} (hk : 1 ≤ k ∧ k ≤ 3) (hd : s.do_ = 1 ∨ s.do_ = 2) (hb : b < s.at_) (ht : s.at_ ≤ 1000) : endsAt (nextOut k th out s) s.at_ = (doP k th s).2.from_ := by
  have hnew : (if s.do_ = 1 then [(⟨s.at_, 1001, s.key, s.val⟩ : Life)] else []).find? (fun x => x.to_ == s.at_) = none := by
    split
    · simp; omega
    · rfl
  unfold nextOut endsAt
  rw [List.find?_append, hnew, Option.or_none]
  cases hf : (out.map (closeL (doP k th s).2.from_ s.at_)).find? fun x => x.to_ == s.at_ with
  | some x =>
    have hx := List.mem_of_find?_eq_some hf
    have he := List.find?_some hf
    obtain ⟨y, hy, rfl⟩ := List.mem_map.1 hx
    have := h.each y hy
    unfold closeL at he ⊢
    split at he
    · rename_i hyf
      simp only [hyf, if_true]
    · simp at he; omega
  | none =>
    rcases (doP_rest hk hd h.nodup (fun y hy => (h.from_ hy).1) fun h3 => (h.perm h3).2).2 with h1 | h1
    · rw [h1]; rfl
    · exfalso
      obtain ⟨y, hy, hy1, hy2⟩ := h.mem.1 h1
      have hyf : y.from_ = (doP k th s).2.from_ := by rw [← hy2]; rfl
      have := List.find?_eq_none.1 hf (closeL (doP k th s).2.from_ s.at_ y) (List.mem_map_of_mem hy)
      simp [closeL, hyf] at this
theorem takes_ends {k : Int} (hk : 1 ≤ k ∧ k ≤ 3) : ∀ (l : List Step) {th : List Held} {out : List Life} {b : Int}, Inv k th out b → (∀ s ∈ l, (s.do_ = 1 ∨ s.do_ = 2) ∧ 0 ≤ s.at_ ∧ s.at_ ≤ 1000) → strictL l → (∀ s ∈ l, b < s.at_) → takesFrom k th l = (l.filter fun s => s.do_ == 2).map fun s => ⟨endsAt (livesFrom k th out l) s.at_, s.at_⟩
  | [], th, out, b, h, _, _, _ => rfl
  | s :: l, th, out, b, h, hs, hst, hb => by
    obtain ⟨hd, h0, ht⟩ := hs s (by simp)
    obtain ⟨p1, p2⟩ := List.pairwise_cons.1 hst
    have hbs := hb s (by simp)
    have hI := h.step hk hd hbs h0 ht
    have ih := takes_ends hk l hI (fun x hx => hs x (List.mem_cons_of_mem _ hx)) p2 fun x hx => p1 x hx
    have he := ends_keep hk ht l hI (fun x hx => hs x (List.mem_cons_of_mem _ hx)) p2 fun x hx => ⟨p1 x hx, p1 x hx⟩
    rw [ends_new h hk hd hbs ht] at he
    rw [takesFrom, livesFrom, List.filter_cons]
    rw [show livesFrom k (doP k th s).1 (out.map (closeL (doP k th s).2.from_ s.at_) ++ if s.do_ = 1 then [⟨s.at_, 1001, s.key, s.val⟩] else []) l = livesFrom k (doP k th s).1 (nextOut k th out s) l from rfl, ih]
    by_cases h2 : s.do_ = 2
    · simp [h2, he]
    · simp [h2]
/-- What the Outs take is what they end the lives of. -/
theorem takesOf_ends {k : Int} {l : List Step} (hl : isLineP k l = true) : takesOf k l = (l.filter fun s => s.do_ == 2).map fun s => ⟨endsAt (livesOf k l) s.at_, s.at_⟩ := by
  have hs := isLineP_spec hl
  exact takes_ends ⟨hs.1, hs.2.1⟩ l (Inv.start k (-1)) (fun s hx => isStep_do (hs.2.2.2.1 s hx)) (line_strict hl) fun s hx => by have := (isStep_do (hs.2.2.2.1 s hx)).2; omega
end Go.Proofs.YtkoeplbkeboklaaGreat
/- The plain side of RetroLived: what is there now, lives that end at a time, places in a list of what was kept. No program in sight. -/
set_option linter.unusedVariables false
set_option linter.unusedSimpArgs false
namespace Go.Proofs.YtkoeplbkeboklaaGreat
def idxFrom {α : Type} (p : α → Bool) : List α → Nat → Int
  | [], _ => -1
  | x :: l, n => if p x then n else idxFrom p l (n + 1)
theorem idxFrom_drop {α : Type} {p : α → Bool} {xs : List α} {n : Nat} {x : α} (h : xs[n]? = some x) : idxFrom p (xs.drop n) n = if p x then (n : Int) else idxFrom p (xs.drop (n + 1)) (n + 1) := by
  obtain ⟨hlt, rfl⟩ := List.getElem?_eq_some_iff.1 h
  rw [List.drop_eq_getElem_cons hlt, idxFrom]
/-- Where the life that ends at a time is. -/
theorem idx_ends (a : Int) : ∀ (l : List Life) (n : Nat), (idxFrom (fun x : Life => x.to_ == a) l n = -1 ∧ endsAt l a = -1) ∨ ∃ i x, l[i]? = some x ∧ idxFrom (fun x : Life => x.to_ == a) l n = ((n + i : Nat) : Int) ∧ endsAt l a = x.from_
  | [], n => .inl ⟨rfl, rfl⟩
  | x :: l, n => by
    by_cases hx : x.to_ = a
    · exact .inr ⟨0, x, rfl, by simp [idxFrom, hx], by simp [endsAt, List.find?_cons, hx]⟩
    · have hb : (x.to_ == a) = false := by simp [hx]
      rcases idx_ends a l (n + 1) with ⟨h1, h2⟩ | ⟨i, y, h0, h1, h2⟩
      · exact .inl ⟨by rw [idxFrom]; simp only [hb]; exact h1, by unfold endsAt at h2 ⊢; rw [List.find?_cons]; simp only [hb]; exact h2⟩
      · exact .inr ⟨i + 1, y, by simpa using h0, by rw [idxFrom]; simp only [hb]; rw [show n + (i + 1) = n + 1 + i by omega]; exact h1, by unfold endsAt at h2 ⊢; rw [List.find?_cons]; simp only [hb]; exact h2⟩
/-- The place of one that was kept. -/
theorem filter_place {α : Type} {p : α → Bool} {l : List α} {n : Nat} {x : α} (h : l[n]? = some x) (hp : p x = true) : (l.filter p)[((l.take n).filter p).length]? = some x := by
  obtain ⟨hlt, rfl⟩ := List.getElem?_eq_some_iff.1 h
  have e : l = l.take n ++ l[n] :: l.drop (n + 1) := by rw [← List.drop_eq_getElem_cons hlt, List.take_append_drop]
  have e2 : l.filter p = (l.take n).filter p ++ l[n] :: (l.drop (n + 1)).filter p := by
    conv => lhs; rw [e]
    rw [List.filter_append, List.filter_cons, if_pos hp]
  rw [e2, List.getElem?_append_right (by omega), Nat.sub_self]
  rfl
def outP (s : Step) : Bool := s.do_ == 2
theorem takes_place {k : Int} {l : List Step} (hl : isLineP k l = true) {n : Nat} {s : Step} (h : l[n]? = some s) (hs : s.do_ = 2) : (takesOf k l)[((l.take n).filter outP).length]? = some ⟨endsAt (livesOf k l) s.at_, s.at_⟩ := by
  rw [takesOf_ends hl, List.getElem?_map]
  have := filter_place (p := outP) h (by simp [outP, hs])
  unfold outP at this ⊢
  rw [this]
  rfl
theorem takes_count {k : Int} {l : List Step} (hl : isLineP k l = true) : (takesOf k l).length = (l.filter outP).length := by
  rw [takesOf_ends hl, List.length_map]; rfl
/-- A life that lasts at a time, in the law's words. -/
def nowP (t : Int) (x : Life) : Bool := decide (x.from_ ≤ t) && decide (min t 1000 < x.to_)
def pairL (x : Life) : Pair := ⟨x.key, x.val⟩
def nowOf (k : Int) (l : List Step) (t : Int) : List Pair := ((livesOf k l).filter (nowP t)).map pairL
theorem lives_each {k : Int} {l : List Step} (hl : isLineP k l = true) : ∀ x ∈ livesOf k l, 0 ≤ x.from_ ∧ x.from_ ≤ 1000 ∧ x.from_ < x.to_ ∧ x.to_ ≤ 1001 := by
  have hs := isLineP_spec hl
  obtain ⟨th, b, h, h2⟩ := lives_from ⟨hs.1, hs.2.1⟩ l (Inv.start k (-1)) .nil (fun s hx => isStep_do (hs.2.2.2.1 s hx)) (line_strict hl) fun s hx => by have := (isStep_do (hs.2.2.2.1 s hx)).2; omega
  intro x hx
  have := h.each x hx
  omega
theorem now_alike {k : Int} {l : List Step} (hl : isLineP k l = true) (t : Int) : ∃ th, thereP k l t = th.map pairH ∧ Alike k th (((livesOf k l).filter (nowP t)).map heldL) := by
  have he := lives_each hl
  by_cases ht : t ≤ 1000
  · refine ⟨_, rfl, ?_⟩
    have h := state_lives hl ht
    rw [show (livesOf k l).filter (nowP t) = (livesOf k l).filter (liveAt t) from List.filter_congr fun x hx => by unfold nowP liveAt; rw [Int.min_eq_left ht]]
    exact h
  · refine ⟨runP k 1000 l, ?_, ?_⟩
    · unfold thereP
      rw [runP_congr (t' := 1000)]
      intro s hs
      have := (isStep_do ((isLineP_spec hl).2.2.2.1 s hs)).2
      omega
    · have h := state_lives hl (t := 1000) (by omega)
      rw [show (livesOf k l).filter (nowP t) = (livesOf k l).filter (liveAt 1000) from List.filter_congr fun x hx => by
        have := he x hx
        unfold nowP liveAt
        rw [Int.min_eq_right (by omega), decide_eq_true (show x.from_ ≤ t by omega), decide_eq_true (show x.from_ ≤ 1000 by omega)]]
      exact h
theorem now_there {k : Int} {l : List Step} (hl : isLineP k l = true) (t : Int) (h3 : k ≠ 3) : nowOf k l t = thereP k l t := by
  obtain ⟨th, h1, h2⟩ := now_alike hl t
  rw [h1, h2.1 h3]
  unfold nowOf
  rw [List.map_map]
  rfl
theorem sortP_unique : ∀ {th ss : List Pair}, (th.Pairwise fun a b => a.key < b.key) → ss.Perm th → (ss.Pairwise fun a b => a.key ≤ b.key) → ss = th
  | [], ss, _, hp, _ => List.Perm.eq_nil hp
  | x :: t, [], _, hp, _ => absurd hp.length_eq (by simp)
  | x :: t, y :: s, hs, hp, hq => by
    obtain ⟨h1, h2⟩ := List.pairwise_cons.1 hs
    obtain ⟨h3, h4⟩ := List.pairwise_cons.1 hq
    have hy : y ∈ x :: t := hp.mem_iff.1 (by simp)
    have hx : x ∈ y :: s := hp.mem_iff.2 (by simp)
    have hxy : y = x := by
      rcases List.mem_cons.1 hy with h | h
      · exact h
      · have h5 := h1 y h
        rcases List.mem_cons.1 hx with h' | h'
        · exact h'.symm
        · have := h3 x h'; omega
    subst hxy
    rw [sortP_unique h2 ((List.perm_cons _).1 hp) h4]
theorem now_sorted {l : List Step} (hl : isLineP 3 l = true) (t : Int) {ss : List Pair} (hp : ss.Perm (nowOf 3 l t)) (hs : ss.Pairwise fun a b => a.key ≤ b.key) : ss = thereP 3 l t := by
  obtain ⟨th, h1, h2⟩ := now_alike hl t
  rw [h1]
  obtain ⟨h3, h4⟩ := h2.2 rfl
  refine sortP_unique (List.pairwise_map.2 (h4.imp fun h => h)) (hp.trans ?_) hs
  have := (h3.map pairH).symm
  unfold nowOf
  rw [List.map_map] at this
  exact this
theorem now_length (k : Int) (l : List Step) (t : Int) : (nowOf k l t).length ≤ (livesOf k l).length := by
  unfold nowOf; rw [List.length_map]; exact List.length_filter_le _ _
/-- A life that was taken begins at 0 or later. -/
theorem from_nat {k : Int} {l : List Step} (hl : isLineP k l = true) {x : Life} (hx : x ∈ livesOf k l) : x.from_ ≠ -1 := by have := lives_each hl x hx; omega
theorem livesFrom_keys {Q : Int → Prop} (k : Int) : ∀ (l : List Step) (th : List Held) (out : List Life), (∀ x ∈ out, Q x.key) → (∀ s ∈ l, Q s.key) → ∀ x ∈ livesFrom k th out l, Q x.key
  | [], th, out, h, _, x, hx => h x hx
  | s :: l, th, out, h, hs, x, hx => by
    rw [livesFrom] at hx
    refine livesFrom_keys k l _ _ (fun y hy => ?_) (fun z hz => hs z (List.mem_cons_of_mem _ hz)) x hx
    rcases List.mem_append.1 hy with hy | hy
    · obtain ⟨z, hz, rfl⟩ := List.mem_map.1 hy
      unfold closeL
      split <;> exact h z hz
    · split at hy
      · simp at hy; subst hy; exact hs s List.mem_cons_self
      · simp at hy
theorem now_keys {k : Int} {l : List Step} (hl : isLineP k l = true) (t : Int) : ∀ p ∈ nowOf k l t, -1000000000 ≤ p.key ∧ p.key ≤ 1000000000 := by
  intro p hp
  unfold nowOf at hp
  obtain ⟨x, hx, rfl⟩ := List.mem_map.1 hp
  refine livesFrom_keys (Q := fun a => -1000000000 ≤ a ∧ a ≤ 1000000000) k l [] [] (fun y hy => by simp at hy) (fun s hs => ?_) x (List.mem_filter.1 hx).1
  have h := (isLineP_spec hl).2.2.2.1 s hs
  unfold isStepP at h
  split at h
  · rename_i hw
    simp only [withinP, Bool.and_eq_true, decide_eq_true_eq] at hw
    exact ⟨by omega, by omega⟩
  · cases h
end Go.Proofs.YtkoeplbkeboklaaGreat
/- RetroLived's literals: slices.SortFunc at pairs, slices.IndexFunc at lives; Lives, Takes and At as the walk takes them. -/
set_option linter.unusedVariables false
set_option linter.unusedSimpArgs false
namespace Go.Proofs.YtkoeplbkeboklaaGreat
open Go.RowKit Go.Shelf Go.Sort
/-- A pair whose key is a key. -/
def SmallP := { p : Pair // -1000000000 ≤ p.key ∧ p.key ≤ 1000000000 }
instance : Inhabited SmallP := ⟨⟨⟨0, 0⟩, by decide⟩⟩
def SmallP.cells (x : SmallP) : List Value := x.1.cells
theorem smallP_len (x : SmallP) : x.cells.length = 2 := rfl
theorem smallP_one (x : SmallP) : ∀ v ∈ x.cells, v.oneCell' = true := by
  intro v hv
  simp [SmallP.cells, Pair.cells] at hv
  rcases hv with rfl | rfl <;> rfl
theorem closurePair0 (xk xv yk yv : Int) (W : World) (hw : IntKind.i64.wrap (xk - yk) = xk - yk) : Calls Tryz.prog 10 #[.agg #[.int .i64 xk, .int .i64 xv], .agg #[.int .i64 yk, .int .i64 yv]] W fun e w' => e = .returned (.int .i64 (xk - yk)) ∧ ∃ q os', w' = grow (W.drewN q) os' := by
  go_enter Tryz.func10, Tryz.ntmps10
  go_wp2
  go_ret
  exact ⟨rfl, 0, _, by rw [alloc_eq_grow, alloc_eq_grow, grow_grow]; rfl⟩
theorem closurePair (x y : SmallP) (W : World) : Calls Tryz.prog 10 #[.agg x.cells.toArray, .agg y.cells.toArray] W fun e w' => e = .returned (.int .i64 (x.1.key - y.1.key)) ∧ ∃ q os', w' = grow (W.drewN q) os' :=
  closurePair0 x.1.key x.1.val y.1.key y.1.val W (Go.IntWalk.i64_in _ (by have := x.2; have := y.2; omega))
theorem ltSmallP (x y : SmallP) : ltOf (fun x y : SmallP => x.1.key - y.1.key) x y = decide (x.1.key < y.1.key) := by
  show decide (x.1.key - y.1.key < 0) = decide (x.1.key < y.1.key)
  by_cases h1 : x.1.key < y.1.key
  · rw [decide_eq_true h1, decide_eq_true (by omega)]
  · rw [decide_eq_false h1, decide_eq_false (by omega)]
theorem swoSmallP : SWO (ltOf fun x y : SmallP => x.1.key - y.1.key) where
  irrefl x := by rw [ltSmallP]; simp
  trans x y z h1 h2 := by rw [ltSmallP] at *; simp at *; omega
  ntrans x y z h1 h2 := by rw [ltSmallP] at *; simp at *; omega
theorem small_of : ∀ (got : List Pair), (∀ p ∈ got, -1000000000 ≤ p.key ∧ p.key ≤ 1000000000) → ∃ gs : List SmallP, got = gs.map fun x => x.1
  | [], _ => ⟨[], rfl⟩
  | p :: t, h => by
    obtain ⟨gs, hg⟩ := small_of t fun q hq => h q (List.mem_cons_of_mem _ hq)
    exact ⟨⟨p, h p List.mem_cons_self⟩ :: gs, congrArg (List.cons p) hg⟩
theorem small_flat (gs : List SmallP) : (gs.map fun x => x.1).flatMap Pair.cells = gs.flatMap SmallP.cells := by rw [List.flatMap_map]; rfl
theorem small_rd {w : World} {v : Value} {gs : List SmallP} (h : Rd SmallP.cells 2 w v gs) : Rd Pair.cells 2 w v (gs.map fun x => x.1) := by
  obtain ⟨h0, a, c, hv, hr⟩ := h
  refine ⟨by simpa using h0, a, c, by simpa using hv, fun hp => ?_⟩
  obtain ⟨b, off, ha, hb, hrd⟩ := hr (by simpa using hp)
  refine ⟨b, off, ha, hb, fun i x hx j u hu => ?_⟩
  rw [List.getElem?_map] at hx
  cases hg : gs[i]? with
  | none => rw [hg] at hx; cases hx
  | some g =>
    rw [hg] at hx
    injection hx with hx
    subst hx
    exact hrd i g hg j u hu
set_option maxHeartbeats 1000000 in
theorem sortPairs_any (a : Option Addr) (c : Nat) (S : Nat → Prop) (got : List Pair) (w : World) (hw : Win Pair.cells 2 39 w (.slice a got.length c) S got) (hl : got.length < 1000000) (hk : ∀ p ∈ got, -1000000000 ≤ p.key ∧ p.key ≤ 1000000000) :
    Calls Tryz.prog 9 #[.slice a got.length c, .func (.func 10) #[] #[]] w fun e w' =>
      e = .returned (.tuple #[]) ∧ ∃ ss, ss.Perm got ∧ (ss.Pairwise fun a b => a.key ≤ b.key) ∧ Rd Pair.cells 2 w' (.slice a got.length c) ss ∧ Fr (fun i => some i = (Value.slice a got.length c).ownBlock) w w' := by
  obtain ⟨gs, rfl⟩ := small_of got hk
  rw [List.length_map] at *
  have hw : Win SmallP.cells 2 39 w (.slice a gs.length c) S gs := by
    have h : WinC 2 39 w (.slice a gs.length c) S (gs.map fun x => x.1).length ((gs.map fun x => x.1).flatMap Pair.cells) := hw
    rw [List.length_map, small_flat] at h
    exact h
  clear hk
  cases gs with
  | nil =>
    refine (AnyF.slices_SortFunc_none (P := Tryz.prog) { Tryz.sortPairs with } a c (.func (.func 10) #[] #[]) w).mono ?_
    rintro e w' ⟨rfl, rfl⟩
    exact ⟨rfl, [], List.Perm.refl _, List.Pairwise.nil, win_rd (enc := Pair.cells) pair_len (xs := []) hw, fr_refl _ _⟩
  | cons h t =>
    obtain ⟨b, off, rfl⟩ : ∃ b off, a = some ⟨b, off, none⟩ := by
      rcases hw.2 with ⟨h1, h2⟩ | ⟨g, off, cap, cur, hv, _⟩
      · simp at h2
      · injection hv with h1; exact ⟨g, off, h1⟩
    have hob : b < w.heap.size := (winC_ob hw b rfl).2
    have hH := holdsK_win smallP_len hw rfl
    have eg : ∀ args w, (callFunc 10 args).run Tryz.prog w = .ok (.enter 10 args) w := enters_of Tryz.func10 (by kernel_rfl) rfl
    have hcon := AnyQ.slices_SortFunc Tryz.sortPairs 2 Tryz.isAgg39 Tryz.sizeOf39 SmallP.cells smallP_len smallP_one (fun x y => x.1.key - y.1.key) swoSmallP 10 #[] b off c (h :: t).toArray w eg
      (fun _ _ _ _ x y => closurePair x y _) hH hob (by simp at hl ⊢; omega)
    refine hcon.mono ?_
    rintro e w' ⟨rfl, d', n, os, hp, hs, rfl⟩
    have hsz : d'.size = (h :: t).length := by simpa using hp.1
    have hH2 : HoldsK SmallP.cells 2 (sortWorldK SmallP.cells 2 w b off n d' os) b off d' := by
      refine holdsK_grow _ _ _ _ _ _ _ (by simp [putRowK, putRow, mapBlock, Sort.ahead]; exact hob) ?_
      exact holdsK_putRowK _ _ _ _ _ _ _ (holdsK_ahead _ _ _ _ _ _ _ hH) (by simpa using hsz)
    refine ⟨rfl, d'.toList.map fun x => x.1, ?_, ?_, ?_, fr_mono (fr_sortK _ _ _ _ _ _ _ _) fun i hi => by rw [hi]; rfl⟩
    · refine List.Perm.map _ ?_
      have := hp.2.2
      rw [show (h :: t).toArray.size = d'.size by simpa using hsz.symm] at this
      have h2 := List.take_of_length_le (l := h :: t) (i := d'.size) (by omega)
      simp only [Array.extract_size, Array.toList_extract, List.extract_eq_take_drop, Nat.sub_zero, List.drop_zero] at this
      rw [h2] at this
      simpa using this
    · refine List.pairwise_map.2 (List.pairwise_iff_getElem.2 fun i j hi hj hij => ?_)
      rw [Array.length_toList] at hi hj
      have := hs i j (by omega) hij (by rw [← hp.1]; exact hj)
      rw [ltSmallP] at this
      simp [hi, hj] at this
      simpa using this
    · have := small_rd (rd_holdsK smallP_len (c := c) hH2 (by simp [sortWorldK, putRowK, putRow, mapBlock, Sort.ahead]; omega) (by omega))
      rwa [hsz] at this
set_option maxHeartbeats 1000000 in
theorem lives_idx (G : FuncId) (q : Value) (p : Life → Bool) (v : Value) (xs : List Life) (w : World) (hr : Rd Life.cells 4 w v xs) (he : ∀ args w, (callFunc G args).run Tryz.prog w = .ok (.enter G args) w)
    (hp : ∀ W x, x ∈ xs → Below w.heap.size w W → Calls Tryz.prog G #[.agg #[.int .i64 x.from_, .int .i64 x.to_, .int .i64 x.key, .int .i64 x.val], q] W fun e w' => e = .returned (.bool (p x)) ∧ Below W.heap.size W w') :
    Calls Tryz.prog 11 #[v, .func (.func G) #[] #[q]] w fun e w' => e = .returned (.int .i64 (idxFrom p xs 0)) ∧ Below w.heap.size w w' := by
  obtain ⟨a, c, rfl⟩ : ∃ a c, v = .slice a xs.length c := by obtain ⟨_, a, c, rfl, _⟩ := hr; exact ⟨a, c, rfl⟩
  have hl63 := hr.1
  have HR := Lib.hid hr
  have HP := Lib.hid hp
  have HB := Lib.hid (Below.refl w.heap.size w)
  clear hr hp
  go_enter Tryz.func11, Tryz.ntmps11
  go_wp2
  go_loopw [8] (fun i W => ∃ (n : Nat), i = .int .i64 n ∧ n ≤ xs.length ∧ idxFrom p (xs.drop n) n = idxFrom p xs 0 ∧ Below w.heap.size w W) (fun i _ => xs.length - (intOf i).toNat)
  case atStart => exact ⟨0, rfl, by omega, rfl, HB.out⟩
  case round =>
    obtain ⟨n, rfl, hnl, hi, hB⟩ := hrel
    by_cases hlt : n < xs.length
    · have hx := List.getElem?_eq_getElem hlt
      have hmem : xs[n] ∈ xs := List.getElem_mem hlt
      generalize xs[n] = x at hx hmem
      obtain ⟨b, off, rfl, hbl, hc⟩ := rd_at (HR.out.below hB) hx
      have q0 : wr.cell? ⟨b, off + n * 4, none⟩ = some (.int .i64 x.from_) := hc 0 _ rfl
      have q1 := hc 1 _ rfl
      have q2 := hc 2 _ rfl
      have q3 := hc 3 _ rfl
      have hd := idxFrom_drop (p := p) hx
      rw [hi] at hd
      have HX := Lib.hid (And.intro hd (And.intro hB (HP.out wr x hmem hB)))
      clear hd hB hi hc hx hmem
      cases hpx : p x with
      | true =>
        have HPX := Lib.hid hpx
        clear hpx
        go_wp2_with (refine (HX.out.2.2).mono ?_; rintro e w2 ⟨rfl, hb2⟩; rw [HPX.out])
        go_ret
        exact ⟨ret_int (by rw [HX.out.1, if_pos HPX.out]), HX.out.2.1.trans (hb2.mono HX.out.2.1.size)⟩
      | false =>
        have HPX := Lib.hid hpx
        clear hpx
        go_wp2_with (refine (HX.out.2.2).mono ?_; rintro e w2 ⟨rfl, hb2⟩; rw [HPX.out])
        go_roundw
        case rel => exact ⟨n + 1, by go_num, by omega, by rw [HX.out.1, HPX.out]; rfl, HX.out.2.1.trans (hb2.mono HX.out.2.1.size)⟩
        case measure => simp [intOf]; omega
    · obtain rfl : n = xs.length := by omega
      have HX := Lib.hid (And.intro hi hB)
      clear hi hB
      go_wp2
      go_ret
      exact ⟨ret_int (by rw [← HX.out.1, List.drop_length]; rfl), HX.out.2⟩

theorem endAt_any (f t k v at_ : Int) (T : Nat) (w : World) (hc : w.cell? ⟨T, 0, none⟩ = some (.int .i64 at_)) : Calls Tryz.prog 12 #[.agg #[.int .i64 f, .int .i64 t, .int .i64 k, .int .i64 v], .pointer (some ⟨T, 0, none⟩)] w fun e w' => e = .returned (.bool (t == at_)) ∧ Below w.heap.size w w' := by
  have hb := fun o => (Below.refl w.heap.size w).alloc (Nat.le_refl _) o
  have e0 := fun o => below_cell (hb o) hc
  have HB := Lib.hid hb
  clear hb
  go_enter Tryz.func12, Tryz.ntmps12
  go_wp2
  go_ret
  exact ⟨rfl, HB.out _⟩
theorem z_lives {w : World} {k : Int} {v : Value} {l : List Step} (ps : List Life) (er : Int) (hr : Rd Step.cells 4 w v l) (he : livesP k l = (ps, er)) :
    Calls Tryz.prog 4 #[.agg #[.int .i64 k, v]] w fun e w' => ∃ a c, e = .returned (.tuple #[.slice a ps.length c, .int .i64 er]) ∧ Rd Life.cells 4 w' (.slice a ps.length c) ps ∧ ps.length ≤ c ∧ Below w.heap.size w w' :=
  (rLives_any k v l w hr).mono fun e w' ⟨v', h1, h2, h3⟩ => by
    rw [he] at h1 h2
    have hrd := win_rd life_len h2
    obtain ⟨a, c, rfl, hn, _⟩ := winC_slice h2
    exact ⟨a, c, h1, hrd, hn, h3⟩
section
variable {w : World} {k : Int} {v : Value} {l : List Step}
theorem z_at (t : Int)(ps : List Pair) (er : Int) (hr : Rd Step.cells 4 w v l) (he : atP k l t = (ps, er)) :
    Calls Tryz.prog 6 #[.agg #[.int .i64 k, v], .int .i64 t] w fun e w' => ∃ a c, e = .returned (.tuple #[.slice a ps.length c, .int .i64 er]) ∧ Rd Pair.cells 2 w' (.slice a ps.length c) ps ∧ Below w.heap.size w w' :=
  (at_any k v l t w hr).mono fun e w' ⟨v', h1, h2, h3⟩ => by
    rw [he] at h1 h2
    obtain ⟨a, c, rfl, hrd⟩ := win_out pair_len h2 rfl _ rfl
    exact ⟨a, c, h1, hrd, h3⟩

theorem z_takes (ps : List Span) (er : Int) (hr : Rd Step.cells 4 w v l) (he : takesP k l = (ps, er)) :
    Calls Tryz.prog 5 #[.agg #[.int .i64 k, v]] w fun e w' => ∃ a c, e = .returned (.tuple #[.slice a ps.length c, .int .i64 er]) ∧ Rd Span.cells 2 w' (.slice a ps.length c) ps ∧ Below w.heap.size w w' :=
  (rTakes_any k v l w hr).mono fun e w' ⟨v', h1, h2, h3⟩ => by
    rw [he] at h1 h2
    obtain ⟨a, c, rfl, hrd⟩ := win_out span_len h2 rfl _ rfl
    exact ⟨a, c, h1, hrd, h3⟩

end
end Go.Proofs.YtkoeplbkeboklaaGreat
