/- The law RetroOrder, walked. (Printed by laws10.py.) -/
import Derived.Test.YtkoeplbkeboklaaXL9
import Derived.Test.YtkoeplbkeboklaaXL7
set_option linter.unusedVariables false
set_option linter.unusedSimpArgs false
namespace Go.Proofs.Ytkoeplbkeboklaa
open Go.RowKit
set_option maxRecDepth 100000 in
set_option maxHeartbeats 8000000 in
theorem w_RetroOrder (k : Int) (u : Value) (l : List Step) (t : Int) (v1 : Value) (z1 : List Int) (v2 : Value) (z2 : List Int) (w : World) (hr : Rd Step.cells 4 w u l) (hb1 : Rd cellU 1 w v1 z1) (hz1 : ∀ z ∈ z1, 0 ≤ z ∧ z ≤ 255) (hb2 : Rd cellU 1 w v2 z2) (hz2 : ∀ z ∈ z2, 0 ≤ z ∧ z ≤ 255) :
    Calls Try.prog 10 #[.agg #[.int .i64 k, u], .int .i64 t, v1, v2] w fun e w' => e = .returned (.bool true) ∧ Below w.heap.size w w' := by
  obtain ⟨a, c, rfl⟩ : ∃ a c, u = .slice a l.length c := by obtain ⟨_, a, c, rfl, _⟩ := hr; exact ⟨a, c, rfl⟩
  obtain ⟨a1, b1, rfl⟩ : ∃ a c, v1 = .slice a z1.length c := by obtain ⟨_, a, c, rfl, _⟩ := hb1; exact ⟨a, c, rfl⟩
  obtain ⟨a2, b2, rfl⟩ : ∃ a c, v2 = .slice a z2.length c := by obtain ⟨_, a, c, rfl, _⟩ := hb2; exact ⟨a, c, rfl⟩
  have HB := Lib.hid (Below.refl w.heap.size w)
  have RS := Lib.hid hr
  have RU := Lib.hid hb1
  have RV := Lib.hid hb2
  have HZ := Lib.hid (And.intro hz1 hz2)
  clear hr hb1 hb2 hz1 hz2
  cases hl : isLineP k l with
  | false =>
    have G1 := Lib.hid (fun W v (h : Rd Step.cells 4 W v l) => by have := good_any k v l W h; rwa [hl] at this)
    clear hl
    go_enter Try.func10, Try.ntmps10
    go_wp2_with fail
    refine named_box1 (G := fun W => Calls _ _ _ W _) _ _ _ fun w2 hb hz hx => ?_
    replace RS := Lib.hid (RS.out.below hb)
    replace RU := Lib.hid (RU.out.below hb)
    replace RV := Lib.hid (RV.out.below hb)
    replace HB := Lib.hid (HB.out.trans (hb.mono HB.out.size))
    clear hb
    have c0 : w2.cell? ⟨w.heap.size, 0, none⟩ = some (.int .i64 k) := cell_blk hx 0
    have c1 : w2.cell? ⟨w.heap.size, 1, none⟩ = some (.slice a l.length c) := cell_blk hx 1
    clear hx hz
    refine (G1.out _ _ RS.out).mono ?_
    rintro e w1 ⟨rfl, hb⟩
    replace c0 := below_cell hb c0
    replace c1 := below_cell hb c1
    replace RS := Lib.hid (RS.out.below hb)
    replace RU := Lib.hid (RU.out.below hb)
    replace RV := Lib.hid (RV.out.below hb)
    replace HB := Lib.hid (HB.out.trans (hb.mono HB.out.size))
    clear hb
    go_wp2_with fail
    refine (known_any _).mono ?_
    rintro e w1 ⟨rfl, hb⟩
    replace c0 := below_cell hb c0
    replace c1 := below_cell hb c1
    replace RS := Lib.hid (RS.out.below hb)
    replace RU := Lib.hid (RU.out.below hb)
    replace RV := Lib.hid (RV.out.below hb)
    replace HB := Lib.hid (HB.out.trans (hb.mono HB.out.size))
    clear hb
    go_wp2
    go_ret
    exact ⟨rfl, HB.out⟩
  | true =>
    have h60 := (isLineP_spec hl).2.2.1
    have HL := Lib.hid hl
    have G1 := Lib.hid (fun W v (h : Rd Step.cells 4 W v l) => by have := good_any k v l W h; rwa [hl] at this)
    have A1 := Lib.hid (fun t => show atP k l t = (thereP k l t, 0) by simp [atP, hl])
    clear hl
    go_enter Try.func10, Try.ntmps10
    go_wp2_with fail
    refine named_box1 (G := fun W => Calls _ _ _ W _) _ _ _ fun w2 hb hz hx => ?_
    replace RS := Lib.hid (RS.out.below hb)
    replace RU := Lib.hid (RU.out.below hb)
    replace RV := Lib.hid (RV.out.below hb)
    replace HB := Lib.hid (HB.out.trans (hb.mono HB.out.size))
    clear hb
    have c0 : w2.cell? ⟨w.heap.size, 0, none⟩ = some (.int .i64 k) := cell_blk hx 0
    have c1 : w2.cell? ⟨w.heap.size, 1, none⟩ = some (.slice a l.length c) := cell_blk hx 1
    clear hx hz
    refine (G1.out _ _ RS.out).mono ?_
    rintro e w1 ⟨rfl, hb⟩
    replace c0 := below_cell hb c0
    replace c1 := below_cell hb c1
    replace RS := Lib.hid (RS.out.below hb)
    replace RU := Lib.hid (RU.out.below hb)
    replace RV := Lib.hid (RV.out.below hb)
    replace HB := Lib.hid (HB.out.trans (hb.mono HB.out.size))
    clear hb
    go_wp2_with fail
    refine (inserted_any k _ l _ z1 _ RS.out RU.out HZ.out.1 HL.out).mono ?_
    rintro e w1 ⟨aA, cA, rfl, ra, hb⟩
    replace c0 := below_cell hb c0
    replace c1 := below_cell hb c1
    replace RS := Lib.hid (RS.out.below hb)
    replace RU := Lib.hid (RU.out.below hb)
    replace RV := Lib.hid (RV.out.below hb)
    replace HB := Lib.hid (HB.out.trans (hb.mono HB.out.size))
    clear hb
    have RA := Lib.hid ra
    clear ra
    have e0 := fun o => below_cell ((Below.refl _ _).alloc (Nat.le_refl w1.heap.size) o) c0
    have e1 := fun o => below_cell ((Below.refl _ _).alloc (Nat.le_refl w1.heap.size) o) c1
    go_wp2_with fail
    clear e0 e1 
    refine named_box1 (G := fun W => Calls _ _ _ W _) _ _ _ fun w2 hb hz hx => ?_
    replace c0 := below_cell hb c0
    replace c1 := below_cell hb c1
    replace RS := Lib.hid (RS.out.below hb)
    replace RU := Lib.hid (RU.out.below hb)
    replace RV := Lib.hid (RV.out.below hb)
    replace RA := Lib.hid (RA.out.below hb)
    replace HB := Lib.hid (HB.out.trans (hb.mono HB.out.size))
    clear hb
    have d0 : w2.cell? ⟨w1.heap.size, 0, none⟩ = some (.int .i64 k) := cell_blk hx 0
    have d1 : w2.cell? ⟨w1.heap.size, 1, none⟩ = some (.slice aA l.length cA) := cell_blk hx 1
    clear hx hz
    generalize w1.heap.size = X at *
    refine (inserted_any k _ l _ z2 _ RS.out RV.out HZ.out.2 HL.out).mono ?_
    rintro e w1 ⟨aB, cB, rfl, rb, hb⟩
    replace c0 := below_cell hb c0
    replace c1 := below_cell hb c1
    replace d0 := below_cell hb d0
    replace d1 := below_cell hb d1
    replace RS := Lib.hid (RS.out.below hb)
    replace RU := Lib.hid (RU.out.below hb)
    replace RV := Lib.hid (RV.out.below hb)
    replace RA := Lib.hid (RA.out.below hb)
    replace HB := Lib.hid (HB.out.trans (hb.mono HB.out.size))
    clear hb
    have RB := Lib.hid rb
    clear rb
    clear RU RV
    have e0 := fun o => below_cell ((Below.refl _ _).alloc (Nat.le_refl w1.heap.size) o) c0
    have e1 := fun o => below_cell ((Below.refl _ _).alloc (Nat.le_refl w1.heap.size) o) c1
    have e_d0 := fun o => below_cell ((Below.refl _ _).alloc (Nat.le_refl w1.heap.size) o) d0
    have e_d1 := fun o => below_cell ((Below.refl _ _).alloc (Nat.le_refl w1.heap.size) o) d1
    go_wp2_with fail
    clear e0 e1 e_d0 e_d1
    refine named_box1 (G := fun W => Calls _ _ _ W _) _ _ _ fun w2 hb hz hx => ?_
    replace c0 := below_cell hb c0
    replace c1 := below_cell hb c1
    replace d0 := below_cell hb d0
    replace d1 := below_cell hb d1
    replace RS := Lib.hid (RS.out.below hb)
    replace RA := Lib.hid (RA.out.below hb)
    replace RB := Lib.hid (RB.out.below hb)
    replace HB := Lib.hid (HB.out.trans (hb.mono HB.out.size))
    clear hb
    have y0 : w2.cell? ⟨w1.heap.size, 0, none⟩ = some (.int .i64 k) := cell_blk hx 0
    have y1 : w2.cell? ⟨w1.heap.size, 1, none⟩ = some (.slice aB l.length cB) := cell_blk hx 1
    clear hx hz
    generalize w1.heap.size = Y at *
    refine (k_same RA.out RS.out).mono ?_
    rintro e w1 ⟨rfl, hb⟩
    replace c0 := below_cell hb c0
    replace c1 := below_cell hb c1
    replace d0 := below_cell hb d0
    replace d1 := below_cell hb d1
    replace y0 := below_cell hb y0
    replace y1 := below_cell hb y1
    replace RS := Lib.hid (RS.out.below hb)
    replace RA := Lib.hid (RA.out.below hb)
    replace RB := Lib.hid (RB.out.below hb)
    replace HB := Lib.hid (HB.out.trans (hb.mono HB.out.size))
    clear hb
    go_wp2_with fail
    refine (k_same RB.out RS.out).mono ?_
    rintro e w1 ⟨rfl, hb⟩
    replace c0 := below_cell hb c0
    replace c1 := below_cell hb c1
    replace d0 := below_cell hb d0
    replace d1 := below_cell hb d1
    replace y0 := below_cell hb y0
    replace y1 := below_cell hb y1
    replace RS := Lib.hid (RS.out.below hb)
    replace RA := Lib.hid (RA.out.below hb)
    replace RB := Lib.hid (RB.out.below hb)
    replace HB := Lib.hid (HB.out.trans (hb.mono HB.out.size))
    clear hb
    clear RB y0 y1
    go_wp2_with fail
    refine (g_at t _ 0 RA.out (A1.out t)).mono ?_
    rintro e w1 ⟨aE, cE, rfl, re, hb⟩
    replace c0 := below_cell hb c0
    replace c1 := below_cell hb c1
    replace d0 := below_cell hb d0
    replace d1 := below_cell hb d1
    replace RS := Lib.hid (RS.out.below hb)
    replace RA := Lib.hid (RA.out.below hb)
    replace HB := Lib.hid (HB.out.trans (hb.mono HB.out.size))
    clear hb
    have RE := Lib.hid re
    clear re
    clear RA d0 d1
    go_wp2_with fail
    refine (g_at t _ 0 RS.out (A1.out t)).mono ?_
    rintro e w1 ⟨aF, cF, rfl, rf, hb⟩
    replace c0 := below_cell hb c0
    replace c1 := below_cell hb c1
    replace RS := Lib.hid (RS.out.below hb)
    replace RE := Lib.hid (RE.out.below hb)
    replace HB := Lib.hid (HB.out.trans (hb.mono HB.out.size))
    clear hb
    have RF := Lib.hid rf
    clear rf
    go_wp2_with fail
    refine (k_equalPairs RE.out RF.out).mono ?_
    rintro e w1 ⟨rfl, hb⟩
    replace c0 := below_cell hb c0
    replace c1 := below_cell hb c1
    replace RS := Lib.hid (RS.out.below hb)
    replace RE := Lib.hid (RE.out.below hb)
    replace RF := Lib.hid (RF.out.below hb)
    replace HB := Lib.hid (HB.out.trans (hb.mono HB.out.size))
    clear hb
    clear RE RF
    have hl63 : l.length ≤ 9223372036854775807 := by omega
    have H0 := Lib.hid (And.intro HB.out (And.intro c0 (And.intro c1 RS.out)))
    go_wp2
    clear c0 c1 RS HB
    go_loopw [86] (fun i W => ∃ (n : Nat), i = .int .i64 n ∧ n ≤ l.length ∧ Below w.heap.size w W ∧ W.cell? ⟨w.heap.size, 0, none⟩ = some (.int .i64 k) ∧ W.cell? ⟨w.heap.size, 1, none⟩ = some (.slice a l.length c) ∧ Rd Step.cells 4 W (.slice a l.length c) l) (fun i _ => l.length - (intOf i).toNat)
    case atStart => exact ⟨0, rfl, by omega, H0.out⟩
    case round =>
      obtain ⟨n, rfl, hnl, hB, c0, c1, rs⟩ := hrel
      have HB := Lib.hid hB
      have RS := Lib.hid rs
      clear hB rs
      by_cases hlt : n < l.length
      · have hx := List.getElem?_eq_getElem hlt
        have hmem : l[n] ∈ l := List.getElem_mem hlt
        generalize l[n] = s at hx hmem
        obtain ⟨b, off, rfl, hbl, hc⟩ := rd_at RS.out hx
        have q0 : wr.cell? ⟨b, off + n * 4, none⟩ = some (.int .i64 s.at_) := hc 0 _ rfl
        have q1 := hc 1 _ rfl
        have q2 := hc 2 _ rfl
        have q3 := hc 3 _ rfl
        obtain ⟨less, ds, hdel, hins⟩ := there_and_back HL.out hmem
        have HD := Lib.hid (And.intro hdel hins)
        clear hx hc hmem hdel hins
        obtain ⟨w1, rfl⟩ : ∃ x : World, x = wr := ⟨wr, rfl⟩
        have e0 := fun o => below_cell ((Below.refl _ _).alloc (Nat.le_refl w1.heap.size) o) c0
        have e1 := fun o => below_cell ((Below.refl _ _).alloc (Nat.le_refl w1.heap.size) o) c1
        go_wp2_with fail
        clear e0 e1 q0 q1 q2 q3
        refine named_box1 (G := fun W => Calls _ _ _ W _) _ _ _ fun w2 hb hz hx => ?_
        replace c0 := below_cell hb c0
        replace c1 := below_cell hb c1
        replace RS := Lib.hid (RS.out.below hb)
        replace HB := Lib.hid (HB.out.trans (hb.mono HB.out.size))
        clear hb
        have s0 : w2.cell? ⟨w1.heap.size, 0, none⟩ = some (.int .i64 s.at_) := cell_blk hx 0
        have s1 : w2.cell? ⟨w1.heap.size, 1, none⟩ = some (.int .i64 s.do_) := cell_blk hx 1
        have s2 : w2.cell? ⟨w1.heap.size, 2, none⟩ = some (.int .i64 s.key) := cell_blk hx 2
        have s3 : w2.cell? ⟨w1.heap.size, 3, none⟩ = some (.int .i64 s.val) := cell_blk hx 3
        clear hx hz
        generalize w1.heap.size = Z at *
        refine (g_delete s.at_ k less ds 0 RS.out HD.out.1).mono ?_
        rintro e w1 ⟨aG, cG, aH, cH, rfl, rg, rh, hb, _, _⟩
        replace c0 := below_cell hb c0
        replace c1 := below_cell hb c1
        replace s0 := below_cell hb s0
        replace s1 := below_cell hb s1
        replace s2 := below_cell hb s2
        replace s3 := below_cell hb s3
        replace RS := Lib.hid (RS.out.below hb)
        replace HB := Lib.hid (HB.out.trans (hb.mono HB.out.size))
        clear hb
        have RG := Lib.hid rg
        clear rg
        have RH := Lib.hid rh
        clear rh
        have e0 := fun o => below_cell ((Below.refl _ _).alloc (Nat.le_refl w1.heap.size) o) c0
        have e1 := fun o => below_cell ((Below.refl _ _).alloc (Nat.le_refl w1.heap.size) o) c1
        have e_s0 := fun o => below_cell ((Below.refl _ _).alloc (Nat.le_refl w1.heap.size) o) s0
        have e_s1 := fun o => below_cell ((Below.refl _ _).alloc (Nat.le_refl w1.heap.size) o) s1
        have e_s2 := fun o => below_cell ((Below.refl _ _).alloc (Nat.le_refl w1.heap.size) o) s2
        have e_s3 := fun o => below_cell ((Below.refl _ _).alloc (Nat.le_refl w1.heap.size) o) s3
        go_wp2_with fail
        clear e0 e1 e_s0 e_s1 e_s2 e_s3
        refine named_box1 (G := fun W => Calls _ _ _ W _) _ _ _ fun w2 hb hz hx => ?_
        replace c0 := below_cell hb c0
        replace c1 := below_cell hb c1
        replace s0 := below_cell hb s0
        replace s1 := below_cell hb s1
        replace s2 := below_cell hb s2
        replace s3 := below_cell hb s3
        replace RS := Lib.hid (RS.out.below hb)
        replace RG := Lib.hid (RG.out.below hb)
        replace RH := Lib.hid (RH.out.below hb)
        replace HB := Lib.hid (HB.out.trans (hb.mono HB.out.size))
        clear hb
        have g0 : w2.cell? ⟨w1.heap.size, 0, none⟩ = some (.int .i64 k) := cell_blk hx 0
        have g1 : w2.cell? ⟨w1.heap.size, 1, none⟩ = some (.slice aG less.length cG) := cell_blk hx 1
        clear hx hz
        generalize w1.heap.size = Y2 at *
        refine (g_insert s k l ds 0 RG.out HD.out.2).mono ?_
        rintro e w1 ⟨aI, cI, aJ, cJ, rfl, ri, rj, hb, _, _⟩
        replace c0 := below_cell hb c0
        replace c1 := below_cell hb c1
        replace s0 := below_cell hb s0
        replace s1 := below_cell hb s1
        replace s2 := below_cell hb s2
        replace s3 := below_cell hb s3
        replace g0 := below_cell hb g0
        replace g1 := below_cell hb g1
        replace RS := Lib.hid (RS.out.below hb)
        replace RG := Lib.hid (RG.out.below hb)
        replace RH := Lib.hid (RH.out.below hb)
        replace HB := Lib.hid (HB.out.trans (hb.mono HB.out.size))
        clear hb
        have RI := Lib.hid ri
        clear ri
        have RJ := Lib.hid rj
        clear rj
        clear RG g0 g1 s0 s1 s2 s3
        have e0 := fun o => below_cell ((Below.refl _ _).alloc (Nat.le_refl w1.heap.size) o) c0
        have e1 := fun o => below_cell ((Below.refl _ _).alloc (Nat.le_refl w1.heap.size) o) c1
        go_wp2_with fail
        clear e0 e1 
        refine named_box1 (G := fun W => Calls _ _ _ W _) _ _ _ fun w2 hb hz hx => ?_
        replace c0 := below_cell hb c0
        replace c1 := below_cell hb c1
        replace RS := Lib.hid (RS.out.below hb)
        replace RH := Lib.hid (RH.out.below hb)
        replace RI := Lib.hid (RI.out.below hb)
        replace RJ := Lib.hid (RJ.out.below hb)
        replace HB := Lib.hid (HB.out.trans (hb.mono HB.out.size))
        clear hb
        have m0 : w2.cell? ⟨w1.heap.size, 0, none⟩ = some (.int .i64 k) := cell_blk hx 0
        have m1 : w2.cell? ⟨w1.heap.size, 1, none⟩ = some (.slice aI l.length cI) := cell_blk hx 1
        clear hx hz
        generalize w1.heap.size = Y3 at *
        refine (k_same RI.out RS.out).mono ?_
        rintro e w1 ⟨rfl, hb⟩
        replace c0 := below_cell hb c0
        replace c1 := below_cell hb c1
        replace m0 := below_cell hb m0
        replace m1 := below_cell hb m1
        replace RS := Lib.hid (RS.out.below hb)
        replace RH := Lib.hid (RH.out.below hb)
        replace RI := Lib.hid (RI.out.below hb)
        replace RJ := Lib.hid (RJ.out.below hb)
        replace HB := Lib.hid (HB.out.trans (hb.mono HB.out.size))
        clear hb
        go_wp2_with fail
        refine (k_equalSpans RH.out RJ.out).mono ?_
        rintro e w1 ⟨rfl, hb⟩
        replace c0 := below_cell hb c0
        replace c1 := below_cell hb c1
        replace m0 := below_cell hb m0
        replace m1 := below_cell hb m1
        replace RS := Lib.hid (RS.out.below hb)
        replace RH := Lib.hid (RH.out.below hb)
        replace RI := Lib.hid (RI.out.below hb)
        replace RJ := Lib.hid (RJ.out.below hb)
        replace HB := Lib.hid (HB.out.trans (hb.mono HB.out.size))
        clear hb
        go_wp2
        go_roundw
        case rel => exact ⟨n + 1, by go_num, by omega, HB.out, c0, c1, RS.out⟩
        case measure => simp [intOf]; omega
      · obtain rfl : n = l.length := by omega
        clear c0 c1 RS
        go_wp2_with fail
        refine (known_any _).mono ?_
        rintro e w1 ⟨rfl, hb⟩
        replace HB := Lib.hid (HB.out.trans (hb.mono HB.out.size))
        clear hb
        go_wp2
        go_ret
        exact ⟨rfl, HB.out⟩
end Go.Proofs.Ytkoeplbkeboklaa
