/- The laws' inserted: a line whose steps are inserted in an order. -/
import Derived.Test.YtkoeplbkeboklaaXL8
import Derived.Test.YtkoeplbkeboklaaXP15
import Derived.Deep.DeepCutAuto
import Derived.Deep.RegionHeld3
import Derived.IntWalk
set_option linter.unusedVariables false
set_option linter.unusedSimpArgs false
namespace Go.Proofs.Ytkoeplbkeboklaa
open Go.RowKit
def cellU (x : Int) : List Value := [.int .u8 x]
set_option maxRecDepth 100000 in
set_option maxHeartbeats 8000000 in
theorem inserted_any (k : Int) (v : Value) (l : List Step) (vb : Value) (zs : List Int) (w : World) (hr : Rd Step.cells 4 w v l) (hb : Rd cellU 1 w vb zs) (hz : ∀ z ∈ zs, 0 ≤ z ∧ z ≤ 255) (hl : isLineP k l = true) :
    Calls Try.prog 43 #[.agg #[.int .i64 k, v], vb] w fun e w' => ∃ a c, e = .returned (.tuple #[.agg #[.int .i64 k, .slice a l.length c], .bool true]) ∧ Rd Step.cells 4 w' (.slice a l.length c) l ∧ Below w.heap.size w w' := by
  obtain ⟨a, c, rfl⟩ : ∃ a c, v = .slice a l.length c := by obtain ⟨_, a, c, rfl, _⟩ := hr; exact ⟨a, c, rfl⟩
  obtain ⟨ab, cb, rfl⟩ : ∃ a c, vb = .slice a zs.length c := by obtain ⟨_, a, c, rfl, _⟩ := hb; exact ⟨a, c, rfl⟩
  have h60 := (isLineP_spec hl).2.2.1
  have HR := Lib.hid hr
  have HU := Lib.hid hb
  have HZ := Lib.hid hz
  have HL := Lib.hid hl
  clear hr hb hz hl
  go_enter Try.func43, Try.ntmps43
  go_wp2_with fail
  refine named_box3 (G := fun W => Calls _ _ _ W _) w _ _ _ _ _ _ fun W0 hb0 hz0 hx0 hx1 hx2 => ?_
  refine (cloneSteps _ l _ (HR.out.below hb0) (by omega)).mono ?_
  rintro e w1 ⟨v1, rfl, hw1, hb1⟩
  obtain ⟨aL, cL, rfl, _, _⟩ := winC_slice hw1
  have hB1 := hb0.trans (hb1.mono (by omega))
  have hO1 := (hb1.block (w.heap.size + 1 + 1) (by omega)).trans hx2
  have hR1 := (hb1.block (w.heap.size + 1) (by omega)).trans hx1
  have hob1 := winC_ob hw1
  have hw1' : Win Step.cells 4 39 w1 (.slice aL l.length cL) (fun i => w.heap.size + 3 ≤ i) l := winC_mono hw1 fun i hi => by omega
  have hsz1 : w.heap.size + 3 ≤ w1.heap.size := by have := hb1.size; omega
  have H1 := Lib.hid (And.intro hB1 (And.intro hO1 (And.intro hR1 hw1')))
  clear hb0 hb1 hx0 hx1 hx2 hw1 hob1 hB1 hO1 hR1 hw1'
  go_wp2
  go_loopw [8, 7] (fun i u W => ∃ (out left : List Step) (aO aL : Option Addr) (cO cL : Nat), i = .int .i64 out.length ∧ u = .slice aL left.length cL ∧ out.length + left.length = l.length ∧ Part k l out left ∧
      W.heap[w.heap.size + 1 + 1]? = some (.cells #[.int .i64 k, .slice aO out.length cO] 25 (0, 0)) ∧ W.heap[w.heap.size + 1]? = some (.cells #[.int .i64 0, .slice none 0 0] 25 (0, 0)) ∧
      Rd Step.cells 4 W (.slice aO out.length cO) out ∧ (∀ i, some i = (Value.slice aO out.length cO).ownBlock → w.heap.size + 3 ≤ i ∧ ¬ some i = (Value.slice aL left.length cL).ownBlock) ∧
      Win Step.cells 4 39 W (.slice aL left.length cL) (fun i => w.heap.size + 3 ≤ i) left ∧ Below w.heap.size w W ∧ w.heap.size + 3 ≤ W.heap.size) (fun i _ _ => l.length - (intOf i).toNat)
  case atStart => exact ⟨[], l, none, aL, 0, cL, rfl, rfl, by simp, ⟨by simp, .nil⟩, H1.out.2.1, H1.out.2.2.1, Rd.nil _ _ _, fun i hi => by simp [Value.ownBlock] at hi, H1.out.2.2.2, H1.out.1, hsz1⟩
  case round =>
    obtain ⟨out, left, aO, aL2, cO, cL2, rfl, rfl, hlen, hpart, hO, hR, hro, hoo, hwl, hB, hsz⟩ := hrel
    by_cases hpos : 0 < left.length
    · have hb0 : decide (0 < left.length) = true := decide_eq_true hpos
      have hl60 : left.length ≤ 60 := by omega
      have ho60 : out.length ≤ 60 := by omega
      have HI := Lib.hid (And.intro hpart (And.intro hO (And.intro hR (And.intro hro (And.intro hoo (And.intro hwl hB))))))
      have HLEN := Lib.hid hlen
      clear hpart hO hR hro hoo hwl hB hlen
      go_upto_if 27 with (fail)
      go_cut [9] (fun v W => ∃ j : Nat, v = .int .i64 j ∧ j < left.length ∧ W = wr)
      case first =>
        by_cases hn : out.length < zs.length
        · have hx := List.getElem?_eq_getElem hn
          have hmem : zs[out.length] ∈ zs := List.getElem_mem hn
          generalize zs[out.length] = z at hx hmem
          obtain ⟨hz0, hz1⟩ := HZ.out z hmem
          obtain ⟨b, off, rfl, hbl, hc⟩ := rd_at (HU.out.below HI.out.2.2.2.2.2.2) hx
          have q0 : wr.cell? ⟨b, off + out.length * 1, none⟩ = some (.int .u8 z) := hc 0 _ rfl
          rw [Nat.mul_one] at q0
          clear hx hc hmem
          go_wp2
          go_meet
          exact ⟨(z % (left.length : Int)).toNat, by rw [Int.toNat_of_nonneg (Int.emod_nonneg _ (by omega))], by have := Int.emod_lt_of_pos z (show (0 : Int) < left.length by omega); have := Int.emod_nonneg z (show (left.length : Int) ≠ 0 by omega); omega, rfl⟩
        · go_wp2
          go_meet
          exact ⟨0, rfl, hpos, rfl⟩
      case rest =>
        obtain ⟨j, rfl, hj, hW⟩ := hcut
        have hW2 := hW.symm
        clear hW
        subst hW2
        have hs := List.getElem?_eq_getElem hj
        generalize left[j] = s at hs
        obtain ⟨⟨ds, hins⟩, hpart2⟩ := HI.out.1.step HL.out hs
        obtain ⟨b, off, rfl, hbl, hc⟩ := rd_at (win_rd step_len HI.out.2.2.2.2.2.1) hs
        have q0 : wr.cell? ⟨b, off + j * 4, none⟩ = some (.int .i64 s.at_) := hc 0 _ rfl
        have q1 : wr.cell? ⟨b, off + j * 4 + 1, none⟩ = some (.int .i64 s.do_) := hc 1 _ rfl
        have q2 : wr.cell? ⟨b, off + j * 4 + 2, none⟩ = some (.int .i64 s.key) := hc 2 _ rfl
        have q3 : wr.cell? ⟨b, off + j * 4 + 3, none⟩ = some (.int .i64 s.val) := hc 3 _ rfl
        have o0 : wr.cell? ⟨w.heap.size + 1 + 1, 0, none⟩ = some (.int .i64 k) := cell_blk HI.out.2.1 0
        have o1 : wr.cell? ⟨w.heap.size + 1 + 1, 1, none⟩ = some (.slice aO out.length cO) := cell_blk HI.out.2.1 1
        have HP := Lib.hid (And.intro HI.out.2.2.2.1 (And.intro hpart2 (And.intro hins hs)))
        have hOl : w.heap.size + 1 + 1 < wr.heap.size := (Array.getElem?_eq_some_iff.1 HI.out.2.1).1
        clear hc hs hins hpart2
        go_upto_region 9 with (fail)
        go_cut [10, 12] (fun q e W => ∃ (Y : Nat) (a2 : Option Addr) (c2 : Nat), e = .int .i64 0 ∧ q = .pointer (some ⟨Y, 0, none⟩) ∧ Below wr.heap.size wr W ∧ W.cell? ⟨Y, 0, none⟩ = some (.int .i64 k) ∧ W.cell? ⟨Y, 1, none⟩ = some (.slice a2 (withP out s).length c2) ∧ Rd Step.cells 4 W (.slice a2 (withP out s).length c2) (withP out s) ∧ ∀ i, some i = (Value.slice a2 (withP out s).length c2).ownBlock → wr.heap.size ≤ i)
        case first =>
          have EJ := Lib.hid (enters_of Try.func22 (by kernel_rfl) rfl)
          refine wp_region_noPanic ?_
          refine wp_region_held_drew (S := fun W => W.cell? ⟨w.heap.size + 1 + 1, 0, none⟩ = some (.int .i64 k) ∧ W.cell? ⟨w.heap.size + 1 + 1, 1, none⟩ = some (.slice aO out.length cO) ∧ W.cell? ⟨b, off + j * 4, none⟩ = some (.int .i64 s.at_) ∧ W.cell? ⟨b, off + j * 4 + 1, none⟩ = some (.int .i64 s.do_) ∧ W.cell? ⟨b, off + j * 4 + 2, none⟩ = some (.int .i64 s.key) ∧ W.cell? ⟨b, off + j * 4 + 3, none⟩ = some (.int .i64 s.val)) (by kernel_rfl) ⟨o0, o1, q0, q1, q2, q3⟩ (fun hHeld => ?_)
          set_option maxRecDepth 10000 in
          refine wpAnyH_take (i := 0) (v := ?_) rfl (by kernel_rfl) (by kernel_rfl) (by kernel_rfl) (fun _ _ _ h => h) (Or.inl ⟨by rfl, ?_⟩) (by assumption) ?_
          rotate_left
          · intro w hSw; (try dsimp only at hSw); go_simp; (try with_reducible rfl)
          try simp only [Act.put, List.getElem_toArray, List.getElem_cons_zero, List.getElem_cons_succ, List.setIfInBounds_toArray, List.set_cons_zero, List.set_cons_succ]

          set_option maxRecDepth 10000 in
          refine wpAnyH_take (i := 1) (v := ?_) rfl (by kernel_rfl) (by kernel_rfl) (by kernel_rfl) (fun _ _ _ h => h) (Or.inl ⟨by rfl, ?_⟩) (by assumption) ?_
          rotate_left
          · intro w hSw; (try dsimp only at hSw); go_simp; (try with_reducible rfl)
          try simp only [Act.put, List.getElem_toArray, List.getElem_cons_zero, List.getElem_cons_succ, List.setIfInBounds_toArray, List.set_cons_zero, List.set_cons_succ]

          set_option maxRecDepth 10000 in
          refine wpAnyH_take (i := 2) (v := ?_) rfl (by kernel_rfl) (by kernel_rfl) (by kernel_rfl) (fun _ _ _ h => h) (Or.inl ⟨by rfl, ?_⟩) (by assumption) ?_
          rotate_left
          · intro w hSw; (try dsimp only at hSw); go_simp; (try with_reducible rfl)
          try simp only [Act.put, List.getElem_toArray, List.getElem_cons_zero, List.getElem_cons_succ, List.setIfInBounds_toArray, List.set_cons_zero, List.set_cons_succ]

          set_option maxRecDepth 10000 in
          refine wpAnyH_take (i := 3) (v := ?_) rfl (by kernel_rfl) (by kernel_rfl) (by kernel_rfl) (fun _ _ _ h => h) (Or.inl ⟨by rfl, ?_⟩) (by assumption) ?_
          rotate_left
          · intro w hSw; (try dsimp only at hSw); go_simp; (try with_reducible rfl)
          try simp only [Act.put, List.getElem_toArray, List.getElem_cons_zero, List.getElem_cons_succ, List.setIfInBounds_toArray, List.set_cons_zero, List.set_cons_succ]

          set_option maxRecDepth 10000 in
          refine wpAnyH_take (i := 4) (v := ?_) rfl (by kernel_rfl) (by kernel_rfl) (by kernel_rfl) (fun _ _ _ h => h) (Or.inl ⟨by rfl, ?_⟩) (by assumption) ?_
          rotate_left
          · intro w hSw; (try dsimp only at hSw); go_simp; (try with_reducible rfl)
          try simp only [Act.put, List.getElem_toArray, List.getElem_cons_zero, List.getElem_cons_succ, List.setIfInBounds_toArray, List.set_cons_zero, List.set_cons_succ]

          set_option maxRecDepth 10000 in
          refine wpAnyH_ready (rs := [5, 10]) (by kernel_rfl) (by simp) ?_

          refine AllReadyH.cons rfl (fun K hK => ?_) ?_
          refine step_call (by rfl) 22 _ _ (by rfl) (EJ.out) _ (by rfl) (g_insert s k (withP out s) ds 0 (HP.out.1.below (Below.refl _ _).drew) HP.out.2.2.1) ?_
          rintro _ wJ ⟨a2, b2, a3, b3, rfl, rx, rd, hbJ, ox, od⟩
          refine ⟨_, rfl, ?_⟩
          have hJ : Below wr.heap.size wr wJ := (Below.refl _ _).drew.trans hbJ
          have u0 := below_cell hJ o0
          have u1 := below_cell hJ o1
          have v0 := below_cell hJ q0
          have v1 := below_cell hJ q1
          have v2 := below_cell hJ q2
          have v3 := below_cell hJ q3
          have RX := Lib.hid rx
          have OX := Lib.hid ox
          clear rx rd ox od
          have hzJ := hJ.size
          refine hK.out _ _ ⟨u0, u1, v0, v1, v2, v3⟩ (fun hHeld => ?_)
          clear hK K
          try simp only [Act.put, List.setIfInBounds_toArray, List.set_cons_zero, List.set_cons_succ]
          set_option maxRecDepth 10000 in
          refine wpAnyH_take (i := 6) (v := ?_) rfl (by kernel_rfl) (by kernel_rfl) (by kernel_rfl) (fun _ _ _ h => h) (Or.inl ⟨by rfl, ?_⟩) (by assumption) ?_
          rotate_left
          · intro w hSw; (try dsimp only at hSw); go_simp; (try with_reducible rfl)
          try simp only [Act.put, List.getElem_toArray, List.getElem_cons_zero, List.getElem_cons_succ, List.setIfInBounds_toArray, List.set_cons_zero, List.set_cons_succ]

          set_option maxRecDepth 10000 in
          refine wpAnyH_take (i := 7) (v := ?_) rfl (by kernel_rfl) (by kernel_rfl) (by kernel_rfl) (fun _ _ _ h => h) (Or.inl ⟨by rfl, ?_⟩) (by assumption) ?_
          rotate_left
          · intro w hSw; (try dsimp only at hSw); go_simp; (try with_reducible rfl)
          try simp only [Act.put, List.getElem_toArray, List.getElem_cons_zero, List.getElem_cons_succ, List.setIfInBounds_toArray, List.set_cons_zero, List.set_cons_succ]

          set_option maxRecDepth 10000 in
          refine wpAnyH_take (i := 8) (v := ?_) rfl (by kernel_rfl) (by kernel_rfl) (by kernel_rfl) (fun _ _ _ h => h) (Or.inl ⟨by rfl, ?_⟩) (by assumption) ?_
          rotate_left
          · intro w hSw; (try dsimp only at hSw); go_simp; (try with_reducible rfl)
          try simp only [Act.put, List.getElem_toArray, List.getElem_cons_zero, List.getElem_cons_succ, List.setIfInBounds_toArray, List.set_cons_zero, List.set_cons_succ]

          set_option maxRecDepth 10000 in
          refine wpAnyH_take (i := 9) (v := ?_) rfl (by kernel_rfl) (by kernel_rfl) (by kernel_rfl) (fun _ _ _ h => h) (Or.inl ⟨by rfl, ?_⟩) (by assumption) ?_
          rotate_left
          · intro w hSw; (try dsimp only at hSw); go_simp; (try with_reducible rfl)
          try simp only [Act.put, List.getElem_toArray, List.getElem_cons_zero, List.getElem_cons_succ, List.setIfInBounds_toArray, List.set_cons_zero, List.set_cons_succ]


          · skip
            set_option maxRecDepth 10000 in
            refine wpAnyH_ready (rs := [10]) (by kernel_rfl) (by simp) ?_

            refine AllReadyH.cons rfl (fun K hK => ?_) ?_
            go_simp
            refine hK.out _ _ ⟨below_cell ((Below.refl _ _).alloc (Nat.le_refl _) _) u0, below_cell ((Below.refl _ _).alloc (Nat.le_refl _) _) u1, below_cell ((Below.refl _ _).alloc (Nat.le_refl _) _) v0, below_cell ((Below.refl _ _).alloc (Nat.le_refl _) _) v1, below_cell ((Below.refl _ _).alloc (Nat.le_refl _) _) v2, below_cell ((Below.refl _ _).alloc (Nat.le_refl _) _) v3⟩ (fun hHeld => ?_)
            clear hK K
            try simp only [Act.put, List.setIfInBounds_toArray, List.set_cons_zero, List.set_cons_succ]
            · skip
              set_option maxRecDepth 10000 in
              refine wpAnyH_ready (rs := [11]) (by kernel_rfl) (by simp) ?_

              refine AllReadyH.cons rfl (fun K hK => ?_) ?_
              · go_simp
                refine hK.out _ _ ⟨below_cell ((Below.refl _ _).alloc (Nat.le_refl _) _) u0, below_cell ((Below.refl _ _).alloc (Nat.le_refl _) _) u1, below_cell ((Below.refl _ _).alloc (Nat.le_refl _) _) v0, below_cell ((Below.refl _ _).alloc (Nat.le_refl _) _) v1, below_cell ((Below.refl _ _).alloc (Nat.le_refl _) _) v2, below_cell ((Below.refl _ _).alloc (Nat.le_refl _) _) v3⟩ (fun hHeld => ?_)
                clear hK K
                try simp only [Act.put, List.setIfInBounds_toArray, List.set_cons_zero, List.set_cons_succ]
                set_option maxRecDepth 10000 in
                refine wpAnyH_take (i := 12) (v := ?_) rfl (by kernel_rfl) (by kernel_rfl) (by kernel_rfl) (fun _ _ _ h => h) (Or.inl ⟨by rfl, ?_⟩) (by assumption) ?_
                rotate_left
                · intro w hSw; (try dsimp only at hSw); go_simp; (try with_reducible rfl)
                try simp only [Act.put, List.getElem_toArray, List.getElem_cons_zero, List.getElem_cons_succ, List.setIfInBounds_toArray, List.set_cons_zero, List.set_cons_succ]

                set_option maxRecDepth 10000 in
                refine wpAnyH_take (i := 13) (v := ?_) rfl (by kernel_rfl) (by kernel_rfl) (by kernel_rfl) (fun _ _ _ h => h) (Or.inl ⟨by rfl, ?_⟩) (by assumption) ?_
                rotate_left
                · intro w hSw; (try dsimp only at hSw); go_simp; (try with_reducible rfl)
                try simp only [Act.put, List.getElem_toArray, List.getElem_cons_zero, List.getElem_cons_succ, List.setIfInBounds_toArray, List.set_cons_zero, List.set_cons_succ]

                refine wpAnyH_done (by kernel_rfl) ?_ _
                refine NoPanic.normal ?_
                go_wp2_with fail
                go_meet
                exact ⟨wJ.heap.size, a2, b2, rfl, rfl, hJ.trans (((Below.refl _ _).alloc (Nat.le_refl _) _).mono hJ.size), box_at wJ _ _ 0, box_at wJ _ _ 1, RX.out.below ((Below.refl _ _).alloc (Nat.le_refl _) _), fun i hi => by have := OX.out i hi; simpa using this⟩
              exact AllReadyH.nil
            exact AllReadyH.nil
          · refine AllReadyH.cons rfl (fun K hK => ?_) ?_
            go_simp
            refine hK.out _ _ ⟨below_cell ((Below.refl _ _).drew.alloc (Nat.le_refl _) _) o0, below_cell ((Below.refl _ _).drew.alloc (Nat.le_refl _) _) o1, below_cell ((Below.refl _ _).drew.alloc (Nat.le_refl _) _) q0, below_cell ((Below.refl _ _).drew.alloc (Nat.le_refl _) _) q1, below_cell ((Below.refl _ _).drew.alloc (Nat.le_refl _) _) q2, below_cell ((Below.refl _ _).drew.alloc (Nat.le_refl _) _) q3⟩ (fun hHeld => ?_)
            clear hK K
            try simp only [Act.put, List.setIfInBounds_toArray, List.set_cons_zero, List.set_cons_succ]
            · skip
              set_option maxRecDepth 10000 in
              refine wpAnyH_ready (rs := [5]) (by kernel_rfl) (by simp) ?_

              refine AllReadyH.cons rfl (fun K hK => ?_) ?_
              refine step_call (by rfl) 22 _ _ (by rfl) (EJ.out) _ (by rfl) (g_insert s k (withP out s) ds 0 (HP.out.1.below ((Below.refl _ _).drew.alloc (Nat.le_refl _) _)) HP.out.2.2.1) ?_
              rintro _ wJ ⟨a2, b2, a3, b3, rfl, rx, rd, hbJ, ox, od⟩
              refine ⟨_, rfl, ?_⟩
              have hJ : Below wr.heap.size wr wJ := ((Below.refl _ _).drew.alloc (Nat.le_refl _) _).trans (hbJ.mono (by simp))
              have u0 := below_cell hJ o0
              have u1 := below_cell hJ o1
              have v0 := below_cell hJ q0
              have v1 := below_cell hJ q1
              have v2 := below_cell hJ q2
              have v3 := below_cell hJ q3
              have RX := Lib.hid rx
              have OX := Lib.hid ox
              clear rx rd ox od
              have hzJ := hJ.size
              refine hK.out _ _ ⟨u0, u1, v0, v1, v2, v3⟩ (fun hHeld => ?_)
              clear hK K
              try simp only [Act.put, List.setIfInBounds_toArray, List.set_cons_zero, List.set_cons_succ]
              set_option maxRecDepth 10000 in
              refine wpAnyH_take (i := 6) (v := ?_) rfl (by kernel_rfl) (by kernel_rfl) (by kernel_rfl) (fun _ _ _ h => h) (Or.inl ⟨by rfl, ?_⟩) (by assumption) ?_
              rotate_left
              · intro w hSw; (try dsimp only at hSw); go_simp; (try with_reducible rfl)
              try simp only [Act.put, List.getElem_toArray, List.getElem_cons_zero, List.getElem_cons_succ, List.setIfInBounds_toArray, List.set_cons_zero, List.set_cons_succ]

              set_option maxRecDepth 10000 in
              refine wpAnyH_take (i := 7) (v := ?_) rfl (by kernel_rfl) (by kernel_rfl) (by kernel_rfl) (fun _ _ _ h => h) (Or.inl ⟨by rfl, ?_⟩) (by assumption) ?_
              rotate_left
              · intro w hSw; (try dsimp only at hSw); go_simp; (try with_reducible rfl)
              try simp only [Act.put, List.getElem_toArray, List.getElem_cons_zero, List.getElem_cons_succ, List.setIfInBounds_toArray, List.set_cons_zero, List.set_cons_succ]

              set_option maxRecDepth 10000 in
              refine wpAnyH_take (i := 8) (v := ?_) rfl (by kernel_rfl) (by kernel_rfl) (by kernel_rfl) (fun _ _ _ h => h) (Or.inl ⟨by rfl, ?_⟩) (by assumption) ?_
              rotate_left
              · intro w hSw; (try dsimp only at hSw); go_simp; (try with_reducible rfl)
              try simp only [Act.put, List.getElem_toArray, List.getElem_cons_zero, List.getElem_cons_succ, List.setIfInBounds_toArray, List.set_cons_zero, List.set_cons_succ]

              set_option maxRecDepth 10000 in
              refine wpAnyH_take (i := 9) (v := ?_) rfl (by kernel_rfl) (by kernel_rfl) (by kernel_rfl) (fun _ _ _ h => h) (Or.inl ⟨by rfl, ?_⟩) (by assumption) ?_
              rotate_left
              · intro w hSw; (try dsimp only at hSw); go_simp; (try with_reducible rfl)
              try simp only [Act.put, List.getElem_toArray, List.getElem_cons_zero, List.getElem_cons_succ, List.setIfInBounds_toArray, List.set_cons_zero, List.set_cons_succ]


              · have yb := (hbJ.block wr.heap.size (by simp)).trans (heap_alloc_new wr.drew (.cells #[.int .i64 0, .slice none 0 0] 25))
                have y0 := cell_blk yb 0
                have y1 := cell_blk yb 1
                have k0 := free_blk yb 0
                have k1 := free_blk yb 1
                have hY := Nat.le_refl wr.heap.size
                set_option maxRecDepth 10000 in
                refine wpAnyH_ready (rs := [11]) (by kernel_rfl) (by simp) ?_

                refine AllReadyH.cons rfl (fun K hK => ?_) ?_
                · go_simp
                  refine hK.out _ _ ⟨fr_cell (stored2 wJ _ _ _) u0 (fun h => by have h2 : w.heap.size + 1 + 1 = _ := h; omega), fr_cell (stored2 wJ _ _ _) u1 (fun h => by have h2 : w.heap.size + 1 + 1 = _ := h; omega), fr_cell (stored2 wJ _ _ _) v0 (fun h => by have h2 : b = _ := h; omega), fr_cell (stored2 wJ _ _ _) v1 (fun h => by have h2 : b = _ := h; omega), fr_cell (stored2 wJ _ _ _) v2 (fun h => by have h2 : b = _ := h; omega), fr_cell (stored2 wJ _ _ _) v3 (fun h => by have h2 : b = _ := h; omega)⟩ (fun hHeld => ?_)
                  clear hK K y0 y1 k0 k1
                  try simp only [Act.put, List.setIfInBounds_toArray, List.set_cons_zero, List.set_cons_succ]
                  set_option maxRecDepth 10000 in
                  refine wpAnyH_take (i := 12) (v := ?_) rfl (by kernel_rfl) (by kernel_rfl) (by kernel_rfl) (fun _ _ _ h => h) (Or.inl ⟨by rfl, ?_⟩) (by assumption) ?_
                  rotate_left
                  · intro w hSw; (try dsimp only at hSw); go_simp; (try with_reducible rfl)
                  try simp only [Act.put, List.getElem_toArray, List.getElem_cons_zero, List.getElem_cons_succ, List.setIfInBounds_toArray, List.set_cons_zero, List.set_cons_succ]

                  set_option maxRecDepth 10000 in
                  refine wpAnyH_take (i := 13) (v := ?_) rfl (by kernel_rfl) (by kernel_rfl) (by kernel_rfl) (fun _ _ _ h => h) (Or.inl ⟨by rfl, ?_⟩) (by assumption) ?_
                  rotate_left
                  · intro w hSw; (try dsimp only at hSw); go_simp; (try with_reducible rfl)
                  try simp only [Act.put, List.getElem_toArray, List.getElem_cons_zero, List.getElem_cons_succ, List.setIfInBounds_toArray, List.set_cons_zero, List.set_cons_succ]

                  refine wpAnyH_done (by kernel_rfl) ?_ _
                  refine NoPanic.normal ?_
                  go_wp2_with fail
                  go_meet
                  exact ⟨wr.heap.size, a2, b2, rfl, rfl, hJ.trans (below_of_fr (stored2 wJ _ _ _) hJ.size fun i hi => by have h2 : i = _ := hi; omega), cell_blk (stored2_blk yb _ _) 0, cell_blk (stored2_blk yb _ _) 1, rd_move RX.out (stored2 wJ _ _ _) (fun i hi h => by have h2 : i = _ := h; have := OX.out i hi; (try simp at this); omega), fun i hi => by have := OX.out i hi; (try simp at this); omega⟩
                exact AllReadyH.nil
              exact AllReadyH.nil
            exact AllReadyH.nil
        case rest =>
          obtain ⟨Y, a2, c2, rfl, rfl, hbW, y0, y1, rx, ox⟩ := hcut
          have hO2 := (hbW.block (w.heap.size + 1 + 1) hOl).trans HI.out.2.1
          have hR2 := (hbW.block (w.heap.size + 1) (by omega)).trans HI.out.2.2.1
          have hwl2 := winC_move HI.out.2.2.2.2.2.1 (fr_of_below (S := fun _ => False) hbW) fun _ _ h => h
          have hbo := (winC_ob HI.out.2.2.2.2.2.1 b rfl).1
          have hsW := hbW.size
          have p0 := cell_blk hO2 0
          have p1 := cell_blk hO2 1
          have k0 := free_blk hO2 0
          have k1 := free_blk hO2 1
          have hB2 := HI.out.2.2.2.2.2.2.trans (hbW.mono HI.out.2.2.2.2.2.2.size)
          have HQ := Lib.hid (And.intro hO2 (And.intro hR2 (And.intro hwl2 (And.intro hB2 (And.intro rx ox)))))
          clear hO2 hR2 hwl2 hB2 rx ox hbW o0 o1 q0 q1 q2 q3
          go_wp2_with fail
          refine named_line (G := fun W => Calls _ _ _ W _) HQ.out.1 _ _ fun W3 hF3 hX3 hsz3 => ?_
          have hw3 := winC_move HQ.out.2.2.1 hF3 fun i hi h => by have h2 : i = _ := h; omega
          refine (delSteps_w (some ⟨b, off, none⟩) cL2 _ left j W3 hw3 hj (by omega)).mono ?_
          rintro e w6 ⟨v6, rfl, hw6, hF6⟩
          obtain ⟨a6, c6, rfl, hn6, hm6⟩ := winC_slice hw6
          have hob6 := winC_ob hw6
          have hoe : ∀ i, some i = (Value.slice (some ⟨b, off, none⟩ : Option Addr) left.length cL2).ownBlock → i = b := fun i hi => by have h : some i = some b := hi; injection h
          have hperm := without_perm HP.out.2.2.2
          have hlw := hperm.length_eq
          rw [List.length_cons] at hlw
          have hO6 := (hF6.block (w.heap.size + 1 + 1) (by omega) (fun h => by have := hoe _ h; omega)).trans hX3
          have hR6 := (hF6.block (w.heap.size + 1) (by omega) (fun h => by have := hoe _ h; omega)).trans ((hF3.block (w.heap.size + 1) (by omega) (fun h => by have h2 : w.heap.size + 1 = _ := h; omega)).trans HQ.out.2.1)
          have hX6 := rd_move (rd_move HQ.out.2.2.2.2.1 hF3 fun i hi h => by have h2 : i = _ := h; have := HQ.out.2.2.2.2.2 i hi; omega) hF6 fun i hi h => by have := hoe _ h; have := HQ.out.2.2.2.2.2 i hi; omega
          have hB6 := HQ.out.2.2.2.1.trans (below_of_fr hF3 HQ.out.2.2.2.1.size fun i hi => by have h2 : i = _ := hi; omega)
          have hB7 := hB6.trans (below_of_fr hF6 hB6.size fun i hi => by have := hoe _ hi; omega)
          have hs6 := hF6.size
          have HZ2 := Lib.hid (And.intro hO6 (And.intro hR6 (And.intro hX6 (And.intro hB7 (And.intro hw6 hob6)))))
          clear hO6 hR6 hX6 hB6 hB7 hw6 hF6 hF3 hX3 hw3 hob6
          go_wp2
          go_roundw
          case rel =>
            have hwlen := with_length out s
            have hLL := HLEN.out
            refine ⟨withP out s, withoutP left j, a2, a6, c2, c6, by rw [hwlen]; go_num, rfl, by omega, HP.out.2.1, HZ2.out.1, HZ2.out.2.1, HZ2.out.2.2.1, fun i hi => ?_, winC_mono HZ2.out.2.2.2.2.1 fun i hi => by have := hoe _ hi; omega, HZ2.out.2.2.2.1, by omega⟩
            have h1 := HQ.out.2.2.2.2.2 i hi
            exact ⟨by omega, fun h2 => by have := hoe _ (HZ2.out.2.2.2.2.2 i h2).1; omega⟩
          case measure => have := HLEN.out; simp [intOf]; omega
    · obtain rfl : left = [] := List.eq_nil_of_length_eq_zero (by omega)
      have ho : out = l := hpart.done HL.out
      subst ho
      have hb0 : decide (0 < ([] : List Step).length) = false := rfl
      have f0 := cell_blk hO 0
      have f1 := cell_blk hO 1
      have k0 := free_blk hR 0
      have k1 := free_blk hR 1
      have r0 := cell_blk hR 0
      have r1 := cell_blk hR 1
      have HQ := Lib.hid (And.intro hB (And.intro hR (And.intro hro hoo)))
      clear hpart hO hR hro hoo hwl hB
      have HE0 := Lib.hid (fun W (h : Fr (fun i => i = w.heap.size + 1) wr W) => rd_move HQ.out.2.2.1 h fun i hi h2 => by have := (HQ.out.2.2.2 i hi).1; have h3 : i = _ := h2; omega)
      go_wp2
      refine named_line (G := fun W => bodyPost _ _ _ _ _ W) HQ.out.2.1 _ _ fun W hF hX hsz2 => ?_
      have g0 := cell_blk hX 0
      have g1 := cell_blk hX 1
      exact bodyPost_ret (v := .tuple #[.agg #[.int .i64 k, .slice aO out.length cO], .bool true]) (by simp [results, Try.results43, go_sem, g0, g1]) rfl ⟨_, _, rfl, HE0.out W hF, HQ.out.1.trans (below_of_fr hF HQ.out.1.size fun i hi => by have h3 : i = _ := hi; omega)⟩
end Go.Proofs.Ytkoeplbkeboklaa
