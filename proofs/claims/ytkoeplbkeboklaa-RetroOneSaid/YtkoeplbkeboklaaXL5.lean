/- The law RetroKnown, walked. (Printed by laws5.py.) -/
import Derived.Test.YtkoeplbkeboklaaM8
import Derived.Deep.DeepCutAuto
import Derived.Deep.RegionHeld3
set_option linter.unusedVariables false
set_option linter.unusedSimpArgs false
namespace Go.Proofs.Ytkoeplbkeboklaa
open Go.RowKit
section
variable {w : World}
theorem k_equalPairs {v1 v2 : Value} {xs : List Pair} (h1 : Rd Pair.cells 2 w v1 xs) (h2 : Rd Pair.cells 2 w v2 xs) : Calls Try.prog 39 #[v1, v2] w fun e w' => e = .returned (.bool true) ∧ Below w.heap.size w w' :=
  (equalPairs_any v1 v2 xs xs w h1 h2).mono fun e w' ⟨h, hb⟩ => ⟨by rw [h]; simp, hb⟩
theorem k_equalSpans {v1 v2 : Value} {xs : List Span} (h1 : Rd Span.cells 2 w v1 xs) (h2 : Rd Span.cells 2 w v2 xs) : Calls Try.prog 38 #[v1, v2] w fun e w' => e = .returned (.bool true) ∧ Below w.heap.size w w' :=
  (equalSpans_any v1 v2 xs xs w h1 h2).mono fun e w' ⟨h, hb⟩ => ⟨by rw [h]; simp, hb⟩
theorem k_equalLives {v1 v2 : Value} {xs : List Life} (h1 : Rd Life.cells 4 w v1 xs) (h2 : Rd Life.cells 4 w v2 xs) : Calls Try.prog 41 #[v1, v2] w fun e w' => e = .returned (.bool true) ∧ Below w.heap.size w w' :=
  (equalLives_any v1 v2 xs xs w h1 h2).mono fun e w' ⟨h, hb⟩ => ⟨by rw [h]; simp, hb⟩
end
def lineD : List Step := [⟨1, 1, 0, 5⟩, ⟨3, 1, 0, 6⟩, ⟨4, 2, 0, 0⟩, ⟨7, 2, 0, 0⟩]
def lineM : List Step := [⟨1, 1, 2, 5⟩, ⟨4, 1, 2, 6⟩]
def lineN : List Step := [⟨1, 1, 2, 5⟩, ⟨3, 2, 2, 0⟩, ⟨4, 1, 2, 6⟩]
theorem f_ins1 : insertP 1 lineS ⟨2, 1, 0, 8⟩ = ((1, lineX), [⟨2, 8⟩], 0) := by decide
theorem f_at1 : atP 1 lineX 4 = ([⟨0, 5⟩, ⟨0, 8⟩], 0) := by decide
theorem f_at2 : atP 1 lineX 7 = ([⟨0, 5⟩], 0) := by decide
theorem f_at3 : atP 1 lineX 9 = ([], 0) := by decide
theorem f_lives : livesP 2 lineS = ([⟨1, 4, 0, 5⟩, ⟨3, 7, 0, 6⟩], 0) := by decide
theorem f_del : deleteP 1 lineS 9 = ((1, lineD), [], 0) := by decide
theorem f_ins2 : insertP 1 lineS ⟨4, 1, 0, 1⟩ = ((0, []), [], 7) := by decide
theorem f_del2 : deleteP 1 lineS 5 = ((0, []), [], 5) := by decide
theorem f_ins3 : insertP 3 lineM ⟨3, 2, 2, 0⟩ = ((3, lineN), [⟨3, 3⟩], 0) := by decide
set_option maxRecDepth 100000 in
set_option maxHeartbeats 8000000 in
theorem w_RetroKnown (w : World) : Calls Try.prog 9 #[] w fun e w' => e = .returned (.bool true) ∧ Below w.heap.size w w' := by
  have HB := Lib.hid (Below.refl w.heap.size w)
  go_enter Try.func9, Try.ntmps9
  go_wp2_with fail
  refine (k_line 1 _).mono ?_
  rintro e w1 ⟨aS, cS, rfl, rs, hb⟩
  replace HB := Lib.hid (HB.out.trans (hb.mono HB.out.size))
  clear hb
  have RS := Lib.hid rs
  clear rs
  go_wp2_with fail
  refine (k_line 2 _).mono ?_
  rintro e w1 ⟨aQ, cQ, rfl, rq, hb⟩
  replace RS := Lib.hid (RS.out.below hb)
  replace HB := Lib.hid (HB.out.trans (hb.mono HB.out.size))
  clear hb
  have RQ := Lib.hid rq
  clear rq
  go_upto_region 2 with (fail)
  refine named_box2 (G := fun W => Code.wp _ _ _ _ W) _ _ _ _ _ fun w2 hb hz hx0 hx1 => ?_
  replace RS := Lib.hid (RS.out.below hb)
  replace RQ := Lib.hid (RQ.out.below hb)
  replace HB := Lib.hid (HB.out.trans (hb.mono HB.out.size))
  clear hb
  have c0 : w2.cell? ⟨w1.heap.size, 0, none⟩ = some (.int .i64 1) := cell_blk hx0 0
  have c1 : w2.cell? ⟨w1.heap.size, 1, none⟩ = some (.slice aS 5 cS) := cell_blk hx0 1
  have c2 : w2.cell? ⟨w1.heap.size + 1, 0, none⟩ = some (.int .i64 2) := cell_blk hx1 0
  have c3 : w2.cell? ⟨w1.heap.size + 1, 1, none⟩ = some (.slice aQ 5 cQ) := cell_blk hx1 1
  clear hx0 hx1 hz
  generalize w1.heap.size = X at *
  clear w1
  obtain ⟨w1, rfl⟩ : ∃ y : World, y = w2 := ⟨_, rfl⟩
  go_cut [3, 4, 5] (fun q d e W => ∃ (Y : Nat) (a2 a3 : Option Addr) (c2 c3 : Nat), e = .int .i64 0 ∧ q = .pointer (some ⟨Y, 0, none⟩) ∧ d = .slice a3 1 c3 ∧ Below w1.heap.size w1 W ∧ W.cell? ⟨Y, 0, none⟩ = some (.int .i64 1) ∧ W.cell? ⟨Y, 1, none⟩ = some (.slice a2 6 c2) ∧ Rd Step.cells 4 W (.slice a2 6 c2) lineX ∧ Rd Span.cells 2 W (.slice a3 1 c3) [⟨2, 8⟩])
  case first =>
    have EI := Lib.hid (enters_of Try.func37 (by kernel_rfl) rfl)
    have EJ := Lib.hid (enters_of Try.func22 (by kernel_rfl) rfl)
    refine wp_region_noPanic ?_
    refine wp_region_held_drew (S := fun W => W.cell? ⟨X, 0, none⟩ = some (.int .i64 1) ∧ W.cell? ⟨X, 1, none⟩ = some (.slice aS 5 cS)) (by kernel_rfl) ⟨c0, c1⟩ (fun hHeld => ?_)
    set_option maxRecDepth 10000 in
    refine wpAnyH_take (i := 0) (v := ?_) rfl (by kernel_rfl) (by kernel_rfl) (by kernel_rfl) (fun _ _ _ h => h) (Or.inl ⟨by rfl, ?_⟩) (by assumption) ?_
    rotate_left
    · intro w hSw; (try dsimp only at hSw); go_simp; (try with_reducible rfl)
    try simp only [Act.put, List.getElem_toArray, List.getElem_cons_zero, List.getElem_cons_succ, List.setIfInBounds_toArray, List.set_cons_zero, List.set_cons_succ]

    set_option maxRecDepth 10000 in
    refine wpAnyH_ready (rs := [1, 7]) (by kernel_rfl) (by simp) ?_

    refine AllReadyH.cons rfl (fun K hK => ?_) ?_
    refine step_call (by rfl) 37 _ _ (by rfl) (EI.out) _ (by rfl) (in_any 2 8 _) ?_
    rintro _ wI ⟨rfl, hbI⟩
    refine ⟨_, rfl, ?_⟩
    have hI : Below w1.heap.size w1 wI := (Below.refl _ _).drew.trans hbI
    have p2 := below_cell hI c0
    have p3 := below_cell hI c1
    have hzI := hI.size
    refine hK.out _ _ ⟨p2, p3⟩ (fun hHeld => ?_)
    clear hK K
    try simp only [Act.put, List.setIfInBounds_toArray, List.set_cons_zero, List.set_cons_succ]

    · skip
      set_option maxRecDepth 10000 in
      refine wpAnyH_ready (rs := [2, 7]) (by kernel_rfl) (by simp) ?_

      refine AllReadyH.cons rfl (fun K hK => ?_) ?_
      refine step_call (by rfl) 22 _ _ (by rfl) (EJ.out) _ (by rfl) (k_insert ⟨2, 1, 0, 8⟩ lineX [⟨2, 8⟩] 6 1 0 (RS.out.below hI) 1 f_ins1 rfl rfl) ?_
      rintro _ wJ ⟨a2, b2, a3, b3, rfl, rx, rd, hbJ, ox, od⟩
      refine ⟨_, rfl, ?_⟩
      have hIJ : Below wI.heap.size wI wJ := hbJ
      have hJ : Below w1.heap.size w1 wJ := hI.trans (hIJ.mono hI.size)
      have q2 := below_cell hJ c0
      have q3 := below_cell hJ c1
      have RX := Lib.hid rx
      have RD := Lib.hid rd
      clear rx rd
      have OX := Lib.hid (And.intro ox od)
      clear ox od
      have hzJ := hIJ.size
      refine hK.out _ _ ⟨q2, q3⟩ (fun hHeld => ?_)
      clear hK K
      try simp only [Act.put, List.setIfInBounds_toArray, List.set_cons_zero, List.set_cons_succ]
      set_option maxRecDepth 10000 in
      refine wpAnyH_take (i := 3) (v := ?_) rfl (by kernel_rfl) (by kernel_rfl) (by kernel_rfl) (fun _ _ _ h => h) (Or.inl ⟨by rfl, ?_⟩) (by assumption) ?_
      rotate_left
      · intro w hSw; (try dsimp only at hSw); go_simp; (try with_reducible rfl)
      try simp only [Act.put, List.getElem_toArray, List.getElem_cons_zero, List.getElem_cons_succ, List.setIfInBounds_toArray, List.set_cons_zero, List.set_cons_succ]

      set_option maxRecDepth 10000 in
      refine wpAnyH_take (i := 4) (v := ?_) rfl (by kernel_rfl) (by kernel_rfl) (by kernel_rfl) (fun _ _ _ h => h) (Or.inl ⟨by rfl, ?_⟩) (by assumption) ?_
      rotate_left
      · intro w hSw; (try dsimp only at hSw); go_simp; (try with_reducible rfl)
      try simp only [Act.put, List.getElem_toArray, List.getElem_cons_zero, List.getElem_cons_succ, List.setIfInBounds_toArray, List.set_cons_zero, List.set_cons_succ]

      set_option maxRecDepth 10000 in
      refine wpAnyH_take (i := 5) (v := ?_) rfl (by kernel_rfl) (by kernel_rfl) (by kernel_rfl) (fun _ _ _ h => h) (Or.inl ⟨by rfl, ?_⟩) (by assumption) ?_
      rotate_left
      · intro w hSw; (try dsimp only at hSw); go_simp; (try with_reducible rfl)
      try simp only [Act.put, List.getElem_toArray, List.getElem_cons_zero, List.getElem_cons_succ, List.setIfInBounds_toArray, List.set_cons_zero, List.set_cons_succ]

      set_option maxRecDepth 10000 in
      refine wpAnyH_take (i := 6) (v := ?_) rfl (by kernel_rfl) (by kernel_rfl) (by kernel_rfl) (fun _ _ _ h => h) (Or.inl ⟨by rfl, ?_⟩) (by assumption) ?_
      rotate_left
      · intro w hSw; (try dsimp only at hSw); go_simp; (try with_reducible rfl)
      try simp only [Act.put, List.getElem_toArray, List.getElem_cons_zero, List.getElem_cons_succ, List.setIfInBounds_toArray, List.set_cons_zero, List.set_cons_succ]


      · skip
        set_option maxRecDepth 10000 in
        refine wpAnyH_ready (rs := [7]) (by kernel_rfl) (by simp) ?_

        refine AllReadyH.cons rfl (fun K hK => ?_) ?_
        go_simp
        refine hK.out _ _ ⟨below_cell ((Below.refl _ _).alloc (Nat.le_refl _) _) q2, below_cell ((Below.refl _ _).alloc (Nat.le_refl _) _) q3⟩ (fun hHeld => ?_)
        clear hK K
        try simp only [Act.put, List.setIfInBounds_toArray, List.set_cons_zero, List.set_cons_succ]
        · skip
          set_option maxRecDepth 10000 in
          refine wpAnyH_ready (rs := [8]) (by kernel_rfl) (by simp) ?_

          refine AllReadyH.cons rfl (fun K hK => ?_) ?_
          · go_simp
            refine hK.out _ _ ⟨below_cell ((Below.refl _ _).alloc (Nat.le_refl _) _) q2, below_cell ((Below.refl _ _).alloc (Nat.le_refl _) _) q3⟩ (fun hHeld => ?_)
            clear hK K
            try simp only [Act.put, List.setIfInBounds_toArray, List.set_cons_zero, List.set_cons_succ]
            set_option maxRecDepth 10000 in
            refine wpAnyH_take (i := 9) (v := ?_) rfl (by kernel_rfl) (by kernel_rfl) (by kernel_rfl) (fun _ _ _ h => h) (Or.inl ⟨by rfl, ?_⟩) (by assumption) ?_
            rotate_left
            · intro w hSw; (try dsimp only at hSw); go_simp; (try with_reducible rfl)
            try simp only [Act.put, List.getElem_toArray, List.getElem_cons_zero, List.getElem_cons_succ, List.setIfInBounds_toArray, List.set_cons_zero, List.set_cons_succ]

            set_option maxRecDepth 10000 in
            refine wpAnyH_take (i := 10) (v := ?_) rfl (by kernel_rfl) (by kernel_rfl) (by kernel_rfl) (fun _ _ _ h => h) (Or.inl ⟨by rfl, ?_⟩) (by assumption) ?_
            rotate_left
            · intro w hSw; (try dsimp only at hSw); go_simp; (try with_reducible rfl)
            try simp only [Act.put, List.getElem_toArray, List.getElem_cons_zero, List.getElem_cons_succ, List.setIfInBounds_toArray, List.set_cons_zero, List.set_cons_succ]

            refine wpAnyH_done (by kernel_rfl) ?_ _
            refine NoPanic.normal ?_
            go_wp2_with fail
            go_meet
            exact ⟨wJ.heap.size, a2, a3, b2, b3, rfl, rfl, rfl, hJ.trans (((Below.refl _ _).alloc (Nat.le_refl _) _).mono hJ.size), box_at wJ _ _ 0, box_at wJ _ _ 1, RX.out.below ((Below.refl _ _).alloc (Nat.le_refl _) _), RD.out.below ((Below.refl _ _).alloc (Nat.le_refl _) _)⟩
          exact AllReadyH.nil
        exact AllReadyH.nil
      · skip
        refine AllReadyH.cons rfl (fun K hK => ?_) ?_
        go_simp
        refine hK.out _ _ ⟨below_cell ((Below.refl _ _).alloc (Nat.le_refl _) _) p2, below_cell ((Below.refl _ _).alloc (Nat.le_refl _) _) p3⟩ (fun hHeld => ?_)
        clear hK K
        try simp only [Act.put, List.setIfInBounds_toArray, List.set_cons_zero, List.set_cons_succ]
        · skip
          set_option maxRecDepth 10000 in
          refine wpAnyH_ready (rs := [2]) (by kernel_rfl) (by simp) ?_

          refine AllReadyH.cons rfl (fun K hK => ?_) ?_
          refine step_call (by rfl) 22 _ _ (by rfl) (EJ.out) _ (by rfl) (k_insert ⟨2, 1, 0, 8⟩ lineX [⟨2, 8⟩] 6 1 0 ((RS.out.below hI).below ((Below.refl _ _).alloc (Nat.le_refl _) _)) 1 f_ins1 rfl rfl) ?_
          rintro _ wJ ⟨a2, b2, a3, b3, rfl, rx, rd, hbJ, ox, od⟩
          refine ⟨_, rfl, ?_⟩
          have hIJ : Below wI.heap.size wI wJ := ((Below.refl _ _).alloc (Nat.le_refl _) _).trans (hbJ.mono (by simp))
          have hJ : Below w1.heap.size w1 wJ := hI.trans (hIJ.mono hI.size)
          have q2 := below_cell hJ c0
          have q3 := below_cell hJ c1
          have RX := Lib.hid rx
          have RD := Lib.hid rd
          clear rx rd
          have OX := Lib.hid (And.intro ox od)
          clear ox od
          have hzJ := hIJ.size
          refine hK.out _ _ ⟨q2, q3⟩ (fun hHeld => ?_)
          clear hK K
          try simp only [Act.put, List.setIfInBounds_toArray, List.set_cons_zero, List.set_cons_succ]
          set_option maxRecDepth 10000 in
          refine wpAnyH_take (i := 3) (v := ?_) rfl (by kernel_rfl) (by kernel_rfl) (by kernel_rfl) (fun _ _ _ h => h) (Or.inl ⟨by rfl, ?_⟩) (by assumption) ?_
          rotate_left
          · intro w hSw; (try dsimp only at hSw); go_simp; (try with_reducible rfl)
          try simp only [Act.put, List.getElem_toArray, List.getElem_cons_zero, List.getElem_cons_succ, List.setIfInBounds_toArray, List.set_cons_zero, List.set_cons_succ]

          set_option maxRecDepth 10000 in
          refine wpAnyH_take (i := 4) (v := ?_) rfl (by kernel_rfl) (by kernel_rfl) (by kernel_rfl) (fun _ _ _ h => h) (Or.inl ⟨by rfl, ?_⟩) (by assumption) ?_
          rotate_left
          · intro w hSw; (try dsimp only at hSw); go_simp; (try with_reducible rfl)
          try simp only [Act.put, List.getElem_toArray, List.getElem_cons_zero, List.getElem_cons_succ, List.setIfInBounds_toArray, List.set_cons_zero, List.set_cons_succ]

          set_option maxRecDepth 10000 in
          refine wpAnyH_take (i := 5) (v := ?_) rfl (by kernel_rfl) (by kernel_rfl) (by kernel_rfl) (fun _ _ _ h => h) (Or.inl ⟨by rfl, ?_⟩) (by assumption) ?_
          rotate_left
          · intro w hSw; (try dsimp only at hSw); go_simp; (try with_reducible rfl)
          try simp only [Act.put, List.getElem_toArray, List.getElem_cons_zero, List.getElem_cons_succ, List.setIfInBounds_toArray, List.set_cons_zero, List.set_cons_succ]

          set_option maxRecDepth 10000 in
          refine wpAnyH_take (i := 6) (v := ?_) rfl (by kernel_rfl) (by kernel_rfl) (by kernel_rfl) (fun _ _ _ h => h) (Or.inl ⟨by rfl, ?_⟩) (by assumption) ?_
          rotate_left
          · intro w hSw; (try dsimp only at hSw); go_simp; (try with_reducible rfl)
          try simp only [Act.put, List.getElem_toArray, List.getElem_cons_zero, List.getElem_cons_succ, List.setIfInBounds_toArray, List.set_cons_zero, List.set_cons_succ]


          · have yb := (hbJ.block wI.heap.size (by simp)).trans (heap_alloc_new wI (.cells #[.int .i64 0, .slice none 0 0] 25))
            have hXl := World.block_lt_of_cell? w1 _ c0
            have y0 := cell_blk yb 0
            have y1 := cell_blk yb 1
            have k0 := free_blk yb 0
            have k1 := free_blk yb 1
            set_option maxRecDepth 10000 in
            refine wpAnyH_ready (rs := [8]) (by kernel_rfl) (by simp) ?_

            refine AllReadyH.cons rfl (fun K hK => ?_) ?_
            · go_simp
              refine hK.out _ _ ⟨fr_cell (stored2 wJ _ _ _) q2 (fun h => by have h2 : X = _ := h; dsimp only at hXl; omega), fr_cell (stored2 wJ _ _ _) q3 (fun h => by have h2 : X = _ := h; dsimp only at hXl; omega)⟩ (fun hHeld => ?_)
              clear hK K y0 y1 k0 k1
              try simp only [Act.put, List.setIfInBounds_toArray, List.set_cons_zero, List.set_cons_succ]
              set_option maxRecDepth 10000 in
              refine wpAnyH_take (i := 9) (v := ?_) rfl (by kernel_rfl) (by kernel_rfl) (by kernel_rfl) (fun _ _ _ h => h) (Or.inl ⟨by rfl, ?_⟩) (by assumption) ?_
              rotate_left
              · intro w hSw; (try dsimp only at hSw); go_simp; (try with_reducible rfl)
              try simp only [Act.put, List.getElem_toArray, List.getElem_cons_zero, List.getElem_cons_succ, List.setIfInBounds_toArray, List.set_cons_zero, List.set_cons_succ]

              set_option maxRecDepth 10000 in
              refine wpAnyH_take (i := 10) (v := ?_) rfl (by kernel_rfl) (by kernel_rfl) (by kernel_rfl) (fun _ _ _ h => h) (Or.inl ⟨by rfl, ?_⟩) (by assumption) ?_
              rotate_left
              · intro w hSw; (try dsimp only at hSw); go_simp; (try with_reducible rfl)
              try simp only [Act.put, List.getElem_toArray, List.getElem_cons_zero, List.getElem_cons_succ, List.setIfInBounds_toArray, List.set_cons_zero, List.set_cons_succ]

              refine wpAnyH_done (by kernel_rfl) ?_ _
              refine NoPanic.normal ?_
              go_wp2_with fail
              go_meet
              exact ⟨wI.heap.size, a2, a3, b2, b3, rfl, rfl, rfl, hJ.trans (below_of_fr (stored2 wJ _ _ _) hJ.size fun i hi => by have h2 : i = _ := hi; omega), cell_blk (stored2_blk yb _ _) 0, cell_blk (stored2_blk yb _ _) 1, rd_move RX.out (stored2 wJ _ _ _) (fun i hi h => by have h2 : i = _ := h; have := OX.out.1 i hi; (try simp at this); omega), rd_move RD.out (stored2 wJ _ _ _) (fun i hi h => by have h2 : i = _ := h; have := OX.out.2 i hi; (try simp at this); omega)⟩
            exact AllReadyH.nil

          exact AllReadyH.nil
        exact AllReadyH.nil
    · skip
      refine AllReadyH.cons rfl (fun K hK => ?_) ?_
      go_simp
      refine hK.out _ _ ⟨below_cell ((Below.refl _ _).drew.alloc (Nat.le_refl _) _) c0, below_cell ((Below.refl _ _).drew.alloc (Nat.le_refl _) _) c1⟩ (fun hHeld => ?_)
      clear hK K
      try simp only [Act.put, List.setIfInBounds_toArray, List.set_cons_zero, List.set_cons_succ]
      · skip
        set_option maxRecDepth 10000 in
        refine wpAnyH_ready (rs := [1]) (by kernel_rfl) (by simp) ?_

        refine AllReadyH.cons rfl (fun K hK => ?_) ?_
        refine step_call (by rfl) 37 _ _ (by rfl) (EI.out) _ (by rfl) (in_any 2 8 _) ?_
        rintro _ wI ⟨rfl, hbI⟩
        refine ⟨_, rfl, ?_⟩
        have hI : Below w1.heap.size w1 wI := ((Below.refl _ _).drew.alloc (Nat.le_refl _) _).trans (hbI.mono (by simp))
        have p2 := below_cell hI c0
        have p3 := below_cell hI c1
        have hzI := hI.size
        refine hK.out _ _ ⟨p2, p3⟩ (fun hHeld => ?_)
        clear hK K
        try simp only [Act.put, List.setIfInBounds_toArray, List.set_cons_zero, List.set_cons_succ]

        · have y := (hbI.block w1.heap.size (by simp)).trans (heap_alloc_new w1.drew (.cells #[.int .i64 0, .slice none 0 0] 25))
          have hy := (Array.getElem?_eq_some_iff.1 y).1
          set_option maxRecDepth 10000 in
          refine wpAnyH_ready (rs := [2]) (by kernel_rfl) (by simp) ?_

          refine AllReadyH.cons rfl (fun K hK => ?_) ?_
          refine step_call (by rfl) 22 _ _ (by rfl) (EJ.out) _ (by rfl) (k_insert ⟨2, 1, 0, 8⟩ lineX [⟨2, 8⟩] 6 1 0 (RS.out.below hI) 1 f_ins1 rfl rfl) ?_
          rintro _ wJ ⟨a2, b2, a3, b3, rfl, rx, rd, hbJ, ox, od⟩
          refine ⟨_, rfl, ?_⟩
          have hIJ : Below wI.heap.size wI wJ := hbJ
          have hJ : Below w1.heap.size w1 wJ := hI.trans (hIJ.mono hI.size)
          have q2 := below_cell hJ c0
          have q3 := below_cell hJ c1
          have RX := Lib.hid rx
          have RD := Lib.hid rd
          clear rx rd
          have OX := Lib.hid (And.intro ox od)
          clear ox od
          have hzJ := hIJ.size
          refine hK.out _ _ ⟨q2, q3⟩ (fun hHeld => ?_)
          clear hK K
          try simp only [Act.put, List.setIfInBounds_toArray, List.set_cons_zero, List.set_cons_succ]
          set_option maxRecDepth 10000 in
          refine wpAnyH_take (i := 3) (v := ?_) rfl (by kernel_rfl) (by kernel_rfl) (by kernel_rfl) (fun _ _ _ h => h) (Or.inl ⟨by rfl, ?_⟩) (by assumption) ?_
          rotate_left
          · intro w hSw; (try dsimp only at hSw); go_simp; (try with_reducible rfl)
          try simp only [Act.put, List.getElem_toArray, List.getElem_cons_zero, List.getElem_cons_succ, List.setIfInBounds_toArray, List.set_cons_zero, List.set_cons_succ]

          set_option maxRecDepth 10000 in
          refine wpAnyH_take (i := 4) (v := ?_) rfl (by kernel_rfl) (by kernel_rfl) (by kernel_rfl) (fun _ _ _ h => h) (Or.inl ⟨by rfl, ?_⟩) (by assumption) ?_
          rotate_left
          · intro w hSw; (try dsimp only at hSw); go_simp; (try with_reducible rfl)
          try simp only [Act.put, List.getElem_toArray, List.getElem_cons_zero, List.getElem_cons_succ, List.setIfInBounds_toArray, List.set_cons_zero, List.set_cons_succ]

          set_option maxRecDepth 10000 in
          refine wpAnyH_take (i := 5) (v := ?_) rfl (by kernel_rfl) (by kernel_rfl) (by kernel_rfl) (fun _ _ _ h => h) (Or.inl ⟨by rfl, ?_⟩) (by assumption) ?_
          rotate_left
          · intro w hSw; (try dsimp only at hSw); go_simp; (try with_reducible rfl)
          try simp only [Act.put, List.getElem_toArray, List.getElem_cons_zero, List.getElem_cons_succ, List.setIfInBounds_toArray, List.set_cons_zero, List.set_cons_succ]

          set_option maxRecDepth 10000 in
          refine wpAnyH_take (i := 6) (v := ?_) rfl (by kernel_rfl) (by kernel_rfl) (by kernel_rfl) (fun _ _ _ h => h) (Or.inl ⟨by rfl, ?_⟩) (by assumption) ?_
          rotate_left
          · intro w hSw; (try dsimp only at hSw); go_simp; (try with_reducible rfl)
          try simp only [Act.put, List.getElem_toArray, List.getElem_cons_zero, List.getElem_cons_succ, List.setIfInBounds_toArray, List.set_cons_zero, List.set_cons_succ]


          · have yb := (hbJ.block w1.heap.size hy).trans y
            have hXl := World.block_lt_of_cell? w1 _ c0
            have y0 := cell_blk yb 0
            have y1 := cell_blk yb 1
            have k0 := free_blk yb 0
            have k1 := free_blk yb 1
            set_option maxRecDepth 10000 in
            refine wpAnyH_ready (rs := [8]) (by kernel_rfl) (by simp) ?_

            refine AllReadyH.cons rfl (fun K hK => ?_) ?_
            · go_simp
              refine hK.out _ _ ⟨fr_cell (stored2 wJ _ _ _) q2 (fun h => by have h2 : X = _ := h; dsimp only at hXl; omega), fr_cell (stored2 wJ _ _ _) q3 (fun h => by have h2 : X = _ := h; dsimp only at hXl; omega)⟩ (fun hHeld => ?_)
              clear hK K y0 y1 k0 k1
              try simp only [Act.put, List.setIfInBounds_toArray, List.set_cons_zero, List.set_cons_succ]
              set_option maxRecDepth 10000 in
              refine wpAnyH_take (i := 9) (v := ?_) rfl (by kernel_rfl) (by kernel_rfl) (by kernel_rfl) (fun _ _ _ h => h) (Or.inl ⟨by rfl, ?_⟩) (by assumption) ?_
              rotate_left
              · intro w hSw; (try dsimp only at hSw); go_simp; (try with_reducible rfl)
              try simp only [Act.put, List.getElem_toArray, List.getElem_cons_zero, List.getElem_cons_succ, List.setIfInBounds_toArray, List.set_cons_zero, List.set_cons_succ]

              set_option maxRecDepth 10000 in
              refine wpAnyH_take (i := 10) (v := ?_) rfl (by kernel_rfl) (by kernel_rfl) (by kernel_rfl) (fun _ _ _ h => h) (Or.inl ⟨by rfl, ?_⟩) (by assumption) ?_
              rotate_left
              · intro w hSw; (try dsimp only at hSw); go_simp; (try with_reducible rfl)
              try simp only [Act.put, List.getElem_toArray, List.getElem_cons_zero, List.getElem_cons_succ, List.setIfInBounds_toArray, List.set_cons_zero, List.set_cons_succ]

              refine wpAnyH_done (by kernel_rfl) ?_ _
              refine NoPanic.normal ?_
              go_wp2_with fail
              go_meet
              exact ⟨w1.heap.size, a2, a3, b2, b3, rfl, rfl, rfl, hJ.trans (below_of_fr (stored2 wJ _ _ _) hJ.size fun i hi => by have h2 : i = _ := hi; omega), cell_blk (stored2_blk yb _ _) 0, cell_blk (stored2_blk yb _ _) 1, rd_move RX.out (stored2 wJ _ _ _) (fun i hi h => by have h2 : i = _ := h; have := OX.out.1 i hi; (try simp at this); omega), rd_move RD.out (stored2 wJ _ _ _) (fun i hi h => by have h2 : i = _ := h; have := OX.out.2 i hi; (try simp at this); omega)⟩
            exact AllReadyH.nil

          exact AllReadyH.nil
        exact AllReadyH.nil
      exact AllReadyH.nil
  case rest =>
    obtain ⟨Y, a2, a3, b2, b3, rfl, rfl, rfl, hb, y0, y1, rx, rd⟩ := hcut
    have RX := Lib.hid rx
    have RD := Lib.hid rd
    clear rx rd
    replace c0 := below_cell hb c0
    replace c1 := below_cell hb c1
    replace c2 := below_cell hb c2
    replace c3 := below_cell hb c3
    replace RS := Lib.hid (RS.out.below hb)
    replace RQ := Lib.hid (RQ.out.below hb)
    replace HB := Lib.hid (HB.out.trans (hb.mono HB.out.size))
    clear hb
    go_wp2_with fail
    refine (k_at 4 _ 2 RX.out f_at1 rfl).mono ?_
    rintro e w1 ⟨aA, cA, rfl, ra, hb⟩
    replace c0 := below_cell hb c0
    replace c1 := below_cell hb c1
    replace c2 := below_cell hb c2
    replace c3 := below_cell hb c3
    replace y0 := below_cell hb y0
    replace y1 := below_cell hb y1
    replace RS := Lib.hid (RS.out.below hb)
    replace RQ := Lib.hid (RQ.out.below hb)
    replace RX := Lib.hid (RX.out.below hb)
    replace RD := Lib.hid (RD.out.below hb)
    replace HB := Lib.hid (HB.out.trans (hb.mono HB.out.size))
    clear hb
    have RA := Lib.hid ra
    clear ra
    go_wp2_with fail
    refine (k_at 7 _ 1 RX.out f_at2 rfl).mono ?_
    rintro e w1 ⟨aB, cB, rfl, rb, hb⟩
    replace c0 := below_cell hb c0
    replace c1 := below_cell hb c1
    replace c2 := below_cell hb c2
    replace c3 := below_cell hb c3
    replace y0 := below_cell hb y0
    replace y1 := below_cell hb y1
    replace RS := Lib.hid (RS.out.below hb)
    replace RQ := Lib.hid (RQ.out.below hb)
    replace RX := Lib.hid (RX.out.below hb)
    replace RD := Lib.hid (RD.out.below hb)
    replace RA := Lib.hid (RA.out.below hb)
    replace HB := Lib.hid (HB.out.trans (hb.mono HB.out.size))
    clear hb
    have RB := Lib.hid rb
    clear rb
    go_wp2_with fail
    refine (k_at 9 _ 0 RX.out f_at3 rfl).mono ?_
    rintro e w1 ⟨aC, cC, rfl, rc, hb⟩
    replace c0 := below_cell hb c0
    replace c1 := below_cell hb c1
    replace c2 := below_cell hb c2
    replace c3 := below_cell hb c3
    replace y0 := below_cell hb y0
    replace y1 := below_cell hb y1
    replace RS := Lib.hid (RS.out.below hb)
    replace RQ := Lib.hid (RQ.out.below hb)
    replace RX := Lib.hid (RX.out.below hb)
    replace RD := Lib.hid (RD.out.below hb)
    replace RA := Lib.hid (RA.out.below hb)
    replace RB := Lib.hid (RB.out.below hb)
    replace HB := Lib.hid (HB.out.trans (hb.mono HB.out.size))
    clear hb
    clear rc
    clear RX y0 y1
    go_wp2_with fail
    refine named_box1 (G := fun W => Calls _ _ _ W _) _ _ _ fun w2 hb hz hx => ?_
    replace c0 := below_cell hb c0
    replace c1 := below_cell hb c1
    replace c2 := below_cell hb c2
    replace c3 := below_cell hb c3
    replace RS := Lib.hid (RS.out.below hb)
    replace RQ := Lib.hid (RQ.out.below hb)
    replace RD := Lib.hid (RD.out.below hb)
    replace RA := Lib.hid (RA.out.below hb)
    replace RB := Lib.hid (RB.out.below hb)
    replace HB := Lib.hid (HB.out.trans (hb.mono HB.out.size))
    clear hb
    refine (k_equalSpans RD.out (rd_new span_len 58 [⟨2, 8⟩] _ 1 _ hx rfl rfl (by decide))).mono ?_
    rintro e w1 ⟨rfl, hb⟩
    replace c0 := below_cell hb c0
    replace c1 := below_cell hb c1
    replace c2 := below_cell hb c2
    replace c3 := below_cell hb c3
    replace RS := Lib.hid (RS.out.below hb)
    replace RQ := Lib.hid (RQ.out.below hb)
    replace RD := Lib.hid (RD.out.below hb)
    replace RA := Lib.hid (RA.out.below hb)
    replace RB := Lib.hid (RB.out.below hb)
    replace HB := Lib.hid (HB.out.trans (hb.mono HB.out.size))
    clear hb
    clear hx hz
    clear RD
    go_wp2_with fail
    refine named_box1 (G := fun W => Calls _ _ _ W _) _ _ _ fun w2 hb hz hx => ?_
    replace c0 := below_cell hb c0
    replace c1 := below_cell hb c1
    replace c2 := below_cell hb c2
    replace c3 := below_cell hb c3
    replace RS := Lib.hid (RS.out.below hb)
    replace RQ := Lib.hid (RQ.out.below hb)
    replace RA := Lib.hid (RA.out.below hb)
    replace RB := Lib.hid (RB.out.below hb)
    replace HB := Lib.hid (HB.out.trans (hb.mono HB.out.size))
    clear hb
    refine (k_vals [5, 8] _ 2 (rd_new int_len 3 [5, 8] _ 2 _ hx rfl rfl (by decide)) (by decide) rfl rfl).mono ?_
    rintro e w1 ⟨aV, cV, rfl, rv, hb⟩
    replace c0 := below_cell hb c0
    replace c1 := below_cell hb c1
    replace c2 := below_cell hb c2
    replace c3 := below_cell hb c3
    replace RS := Lib.hid (RS.out.below hb)
    replace RQ := Lib.hid (RQ.out.below hb)
    replace RA := Lib.hid (RA.out.below hb)
    replace RB := Lib.hid (RB.out.below hb)
    replace HB := Lib.hid (HB.out.trans (hb.mono HB.out.size))
    clear hb
    have RV := Lib.hid rv
    clear rv
    clear hx hz
    go_wp2_with fail
    refine (k_equalPairs RA.out RV.out).mono ?_
    rintro e w1 ⟨rfl, hb⟩
    replace c0 := below_cell hb c0
    replace c1 := below_cell hb c1
    replace c2 := below_cell hb c2
    replace c3 := below_cell hb c3
    replace RS := Lib.hid (RS.out.below hb)
    replace RQ := Lib.hid (RQ.out.below hb)
    replace RA := Lib.hid (RA.out.below hb)
    replace RB := Lib.hid (RB.out.below hb)
    replace RV := Lib.hid (RV.out.below hb)
    replace HB := Lib.hid (HB.out.trans (hb.mono HB.out.size))
    clear hb
    clear RV RA
    go_wp2_with fail
    refine named_box1 (G := fun W => Calls _ _ _ W _) _ _ _ fun w2 hb hz hx => ?_
    replace c0 := below_cell hb c0
    replace c1 := below_cell hb c1
    replace c2 := below_cell hb c2
    replace c3 := below_cell hb c3
    replace RS := Lib.hid (RS.out.below hb)
    replace RQ := Lib.hid (RQ.out.below hb)
    replace RB := Lib.hid (RB.out.below hb)
    replace HB := Lib.hid (HB.out.trans (hb.mono HB.out.size))
    clear hb
    refine (k_vals [5] _ 1 (rd_new int_len 3 [5] _ 1 _ hx rfl rfl (by decide)) (by decide) rfl rfl).mono ?_
    rintro e w1 ⟨aV, cV, rfl, rv, hb⟩
    replace c0 := below_cell hb c0
    replace c1 := below_cell hb c1
    replace c2 := below_cell hb c2
    replace c3 := below_cell hb c3
    replace RS := Lib.hid (RS.out.below hb)
    replace RQ := Lib.hid (RQ.out.below hb)
    replace RB := Lib.hid (RB.out.below hb)
    replace HB := Lib.hid (HB.out.trans (hb.mono HB.out.size))
    clear hb
    have RV := Lib.hid rv
    clear rv
    clear hx hz
    go_wp2_with fail
    refine (k_equalPairs RB.out RV.out).mono ?_
    rintro e w1 ⟨rfl, hb⟩
    replace c0 := below_cell hb c0
    replace c1 := below_cell hb c1
    replace c2 := below_cell hb c2
    replace c3 := below_cell hb c3
    replace RS := Lib.hid (RS.out.below hb)
    replace RQ := Lib.hid (RQ.out.below hb)
    replace RB := Lib.hid (RB.out.below hb)
    replace RV := Lib.hid (RV.out.below hb)
    replace HB := Lib.hid (HB.out.trans (hb.mono HB.out.size))
    clear hb
    clear RV RB
    go_wp2_with fail
    refine (k_lives _ 2 RQ.out f_lives rfl).mono ?_
    rintro e w1 ⟨aL, cL, rfl, rl, hb⟩
    replace c0 := below_cell hb c0
    replace c1 := below_cell hb c1
    replace c2 := below_cell hb c2
    replace c3 := below_cell hb c3
    replace RS := Lib.hid (RS.out.below hb)
    replace RQ := Lib.hid (RQ.out.below hb)
    replace HB := Lib.hid (HB.out.trans (hb.mono HB.out.size))
    clear hb
    have RL := Lib.hid rl
    clear rl
    clear RQ c2 c3
    go_wp2_with fail
    refine (k_delete 9 lineD [] 4 0 0 RS.out 1 f_del rfl rfl).mono ?_
    rintro e w1 ⟨aD, cD, aE, cE, rfl, rd, re, hb⟩
    replace c0 := below_cell hb c0
    replace c1 := below_cell hb c1
    replace RS := Lib.hid (RS.out.below hb)
    replace RL := Lib.hid (RL.out.below hb)
    replace HB := Lib.hid (HB.out.trans (hb.mono HB.out.size))
    clear hb
    clear rd re
    have e0 := fun o => below_cell ((Below.refl _ _).alloc (Nat.le_refl w1.heap.size) o) c0
    have e1 := fun o => below_cell ((Below.refl _ _).alloc (Nat.le_refl w1.heap.size) o) c1
    go_wp2_with fail
    clear e0 e1
    refine named_box1 (G := fun W => Code.wp _ _ _ _ W) _ _ _ fun w2 hb hz hx => ?_
    replace c0 := below_cell hb c0
    replace c1 := below_cell hb c1
    replace RS := Lib.hid (RS.out.below hb)
    replace RL := Lib.hid (RL.out.below hb)
    replace HB := Lib.hid (HB.out.trans (hb.mono HB.out.size))
    clear hb
    clear hz hx
    have hb : Below w2.heap.size w2 w2.drew := (Below.refl _ _).drew
    replace c0 := below_cell hb c0
    replace c1 := below_cell hb c1
    replace RS := Lib.hid (RS.out.below hb)
    replace RL := Lib.hid (RL.out.below hb)
    replace HB := Lib.hid (HB.out.trans (hb.mono HB.out.size))
    clear hb
    have EI := Lib.hid (enters_of Try.func37 (by kernel_rfl) rfl)
    have EJ := Lib.hid (enters_of Try.func22 (by kernel_rfl) rfl)
    go_region_held3 (fun W => W.cell? ⟨X, 0, none⟩ = some (.int .i64 1) ∧ W.cell? ⟨X, 1, none⟩ = some (.slice aS 5 cS)) (first | exact ⟨c0, c1⟩ | go_keep) ((first | (refine step_call (by rfl) 37 _ _ (by rfl) (EI.out) _ (by rfl) (in_any 4 1 _) ?_; rintro _ wK ⟨rfl, hb⟩; refine ⟨_, rfl, ?_⟩; replace c0 := below_cell hb c0; replace c1 := below_cell hb c1; replace RS := Lib.hid (RS.out.below hb); replace RL := Lib.hid (RL.out.below hb); replace HB := Lib.hid (HB.out.trans (hb.mono HB.out.size)); clear hb) | (refine step_call (by rfl) 22 _ _ (by rfl) (EJ.out) _ (by rfl) (k_insert ⟨4, 1, 0, 1⟩ [] [] 0 0 7 RS.out 0 f_ins2 rfl rfl) ?_; rintro _ wK ⟨aF, cF, aG, cG, rfl, rf, rg, hb, _, _⟩; refine ⟨_, rfl, ?_⟩; replace c0 := below_cell hb c0; replace c1 := below_cell hb c1; replace RS := Lib.hid (RS.out.below hb); replace RL := Lib.hid (RL.out.below hb); replace HB := Lib.hid (HB.out.trans (hb.mono HB.out.size)); clear hb rf rg) | fail))
    go_wp2_with fail
    refine (k_delete 5 [] [] 0 0 5 RS.out 0 f_del2 rfl rfl).mono ?_
    rintro e w1 ⟨aH, cH, aI, cI, rfl, rh, ri, hb⟩
    replace c0 := below_cell hb c0
    replace c1 := below_cell hb c1
    replace RS := Lib.hid (RS.out.below hb)
    replace RL := Lib.hid (RL.out.below hb)
    replace HB := Lib.hid (HB.out.trans (hb.mono HB.out.size))
    clear hb
    clear rh ri
    clear RS c0 c1
    go_wp2_with fail
    refine named_box1 (G := fun W => Calls _ _ _ W _) _ _ _ fun w2 hb hz hx => ?_
    replace RL := Lib.hid (RL.out.below hb)
    replace HB := Lib.hid (HB.out.trans (hb.mono HB.out.size))
    clear hb
    refine (k_equalLives RL.out (rd_new life_len 63 [⟨1, 4, 0, 5⟩, ⟨3, 7, 0, 6⟩] _ 2 _ hx rfl rfl (by decide))).mono ?_
    rintro e w1 ⟨rfl, hb⟩
    replace RL := Lib.hid (RL.out.below hb)
    replace HB := Lib.hid (HB.out.trans (hb.mono HB.out.size))
    clear hb
    clear hx hz
    clear RL
    go_wp2_with fail
    refine named_box2 (G := fun W => Calls _ _ _ W _) _ _ _ _ _ fun w2 hb hz hx0 hx1 => ?_
    replace HB := Lib.hid (HB.out.trans (hb.mono HB.out.size))
    clear hb
    have RM := Lib.hid (rd_new step_len 39 lineM _ 2 _ hx0 rfl rfl (by decide))
    clear hx0 hx1 hz
    refine (k_insert ⟨3, 2, 2, 0⟩ lineN [⟨3, 3⟩] 3 1 0 RM.out 3 f_ins3 rfl rfl).mono ?_
    rintro e w1 ⟨aN, cN, aO, cO, rfl, rn, ro, hb, _, _⟩
    replace RM := Lib.hid (RM.out.below hb)
    replace HB := Lib.hid (HB.out.trans (hb.mono HB.out.size))
    clear hb
    have RO := Lib.hid ro
    clear ro
    clear rn
    clear RM
    go_wp2_with fail
    refine named_box1 (G := fun W => Calls _ _ _ W _) _ _ _ fun w2 hb hz hx => ?_
    replace RO := Lib.hid (RO.out.below hb)
    replace HB := Lib.hid (HB.out.trans (hb.mono HB.out.size))
    clear hb
    refine (k_equalSpans RO.out (rd_new span_len 58 [⟨3, 3⟩] _ 1 _ hx rfl rfl (by decide))).mono ?_
    rintro e w1 ⟨rfl, hb⟩
    replace RO := Lib.hid (RO.out.below hb)
    replace HB := Lib.hid (HB.out.trans (hb.mono HB.out.size))
    clear hb
    clear hx hz
    clear RO
    go_wp2_with fail
    refine (known_any _).mono ?_
    rintro e w1 ⟨rfl, hb⟩
    replace HB := Lib.hid (HB.out.trans (hb.mono HB.out.size))
    clear hb
    go_wp2
    go_ret
    exact ⟨rfl, HB.out⟩
end Go.Proofs.Ytkoeplbkeboklaa
