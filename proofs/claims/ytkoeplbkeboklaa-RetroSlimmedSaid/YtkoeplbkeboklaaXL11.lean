/- The law RetroSlimmed, walked. (Printed by laws11.py.) -/
import Derived.Test.YtkoeplbkeboklaaXL9
import Derived.Test.YtkoeplbkeboklaaXL7
import Derived.Test.YtkoeplbkeboklaaXP17
import Derived.Lib.MinMax
import Derived.Deep.DeepCutAuto
set_option linter.unusedVariables false
set_option linter.unusedSimpArgs false
namespace Go.Proofs.Ytkoeplbkeboklaa
open Go.RowKit
def idleP (k t : Int) (x : List Step) (s : Step) : Bool := decide (t < s.at_) && decide (thereP k x (s.at_ - 1) = thereP k x s.at_)
set_option maxRecDepth 100000 in
set_option maxHeartbeats 16000000 in
theorem w_RetroSlimmed (k : Int) (u : Value) (l : List Step) (t : Int) (lt : Int) (v1 : Value) (zs : List Int) (w : World) (hr : Rd Step.cells 4 w u l) (hlt0 : 0 ≤ lt) (hlt1 : lt ≤ 65535) (hb1 : Rd cellU 1 w v1 zs) (hz1 : ∀ z ∈ zs, 0 ≤ z ∧ z ≤ 255) :
    Calls Try.prog 12 #[.agg #[.int .i64 k, u], .int .i64 t, .int .u16 lt, v1] w fun e w' => e = .returned (.bool true) ∧ Below w.heap.size w w' := by
  obtain ⟨a, c, rfl⟩ : ∃ a c, u = .slice a l.length c := by obtain ⟨_, a, c, rfl, _⟩ := hr; exact ⟨a, c, rfl⟩
  obtain ⟨ab, cb, rfl⟩ : ∃ a c, v1 = .slice a zs.length c := by obtain ⟨_, a, c, rfl, _⟩ := hb1; exact ⟨a, c, rfl⟩
  have hzl := hb1.1
  have HB := Lib.hid (Below.refl w.heap.size w)
  have RS := Lib.hid hr
  have RU := Lib.hid hb1
  have HZ := Lib.hid hz1
  clear hr hb1 hz1
  cases hl : isLineP k l with
  | false =>
    have he : slimP k l t = ((0, []), 2) := by simp [slimP, hl]
    have E1 := Lib.hid he
    clear he hl
    go_enter Try.func12, Try.ntmps12
    go_wp2_with fail
    refine named_box2 (G := fun W => Calls _ _ _ W _) w _ _ _ _ fun w2 hb hz hx0 hx1 => ?_
    replace RS := Lib.hid (RS.out.below hb)
    replace RU := Lib.hid (RU.out.below hb)
    replace HB := Lib.hid (HB.out.trans (hb.mono HB.out.size))
    clear hb
    have c0 : w2.cell? ⟨w.heap.size, 0, none⟩ = some (.int .i64 k) := cell_blk hx0 0
    have c1 : w2.cell? ⟨w.heap.size, 1, none⟩ = some (.slice a l.length c) := cell_blk hx0 1
    have c2 : w2.cell? ⟨w.heap.size + 1, 0, none⟩ = some (.int .i64 t) := cell_blk hx1 0
    clear hx0 hx1 hz
    refine (g_slim t 0 [] 2 RS.out E1.out).mono ?_
    rintro e w1 ⟨aX, cX, rfl, rx, hb, _⟩
    replace c0 := below_cell hb c0
    replace c1 := below_cell hb c1
    replace c2 := below_cell hb c2
    replace RS := Lib.hid (RS.out.below hb)
    replace RU := Lib.hid (RU.out.below hb)
    replace HB := Lib.hid (HB.out.trans (hb.mono HB.out.size))
    clear hb
    have RX := Lib.hid rx
    clear rx
    have e_c0 := fun o => below_cell ((Below.refl _ _).alloc (Nat.le_refl w1.heap.size) o) c0
    have e_c1 := fun o => below_cell ((Below.refl _ _).alloc (Nat.le_refl w1.heap.size) o) c1
    have e_c2 := fun o => below_cell ((Below.refl _ _).alloc (Nat.le_refl w1.heap.size) o) c2
    go_wp2_with fail
    clear e_c0 e_c1 e_c2
    refine named_box1 (G := fun W => Calls _ _ _ W _) _ _ _ fun w2 hb hz hx => ?_
    replace c0 := below_cell hb c0
    replace c1 := below_cell hb c1
    replace c2 := below_cell hb c2
    replace RS := Lib.hid (RS.out.below hb)
    replace RU := Lib.hid (RU.out.below hb)
    replace RX := Lib.hid (RX.out.below hb)
    replace HB := Lib.hid (HB.out.trans (hb.mono HB.out.size))
    clear hb
    have d0 : w2.cell? ⟨w1.heap.size, 0, none⟩ = some (.int .i64 0) := cell_blk hx 0
    have d1 : w2.cell? ⟨w1.heap.size, 1, none⟩ = some (.slice aX 0 cX) := cell_blk hx 1
    clear hx hz
    generalize w1.heap.size = X at *
    refine (k_same RX.out (Rd.nil Step.cells 4 _)).mono ?_
    rintro e w1 ⟨rfl, hb⟩
    replace c0 := below_cell hb c0
    replace c1 := below_cell hb c1
    replace c2 := below_cell hb c2
    replace d0 := below_cell hb d0
    replace d1 := below_cell hb d1
    replace RS := Lib.hid (RS.out.below hb)
    replace RU := Lib.hid (RU.out.below hb)
    replace RX := Lib.hid (RX.out.below hb)
    replace HB := Lib.hid (HB.out.trans (hb.mono HB.out.size))
    clear hb
    go_wp2_with fail
    refine (known_any _).mono ?_
    rintro e w1 ⟨rfl, hb⟩
    replace c0 := below_cell hb c0
    replace c1 := below_cell hb c1
    replace c2 := below_cell hb c2
    replace d0 := below_cell hb d0
    replace d1 := below_cell hb d1
    replace RS := Lib.hid (RS.out.below hb)
    replace RU := Lib.hid (RU.out.below hb)
    replace RX := Lib.hid (RX.out.below hb)
    replace HB := Lib.hid (HB.out.trans (hb.mono HB.out.size))
    clear hb
    go_wp2
    go_ret
    exact ⟨rfl, HB.out⟩
  | true =>
    have hc1000 : capT t ≤ 1000 := by unfold capT; split <;> omega
    have h60l := (isLineP_spec hl).2.2.1
    have HL := Lib.hid hl
    have he : slimP k l t = ((k, slimOf k l (capT t)), 0) := by simp [slimP, hl]
    have hxl := slim_line hl (t := capT t)
    have he2 : slimP k (slimOf k l (capT t)) t = ((k, slimOf k l (capT t)), 0) := by simp [slimP, hxl, slim_slim hl hc1000]
    have hthere : ∀ a, capT t ≤ a → thereP k (slimOf k l (capT t)) a = thereP k l a := fun a ha => slim_there hl hc1000 ha
    have hneeds := fun (less : List Step) h1 h2 h3 => slim_needs hl (t := t) (less := less) h1 h2 h3
    have G1 := Lib.hid (fun W v (h : Rd Step.cells 4 W v l) => by have := good_any k v l W h; rwa [hl] at this)
    have A1 := Lib.hid (fun t => show atP k l t = (thereP k l t, 0) by simp [atP, hl])
    clear hl
    obtain ⟨x, hx⟩ : ∃ x, x = slimOf k l (capT t) := ⟨_, rfl⟩
    rw [← hx] at he he2 hxl hthere hneeds
    have hxsp := isLineP_spec hxl
    have h60 := hxsp.2.2.1
    have E1 := Lib.hid he
    have E2 := Lib.hid he2
    have HT := Lib.hid hthere
    have HN := Lib.hid hneeds
    have XL := Lib.hid hxl
    have G2 := Lib.hid (fun W v (h : Rd Step.cells 4 W v x) => by have := good_any k v x W h; rwa [hxl] at this)
    have A2 := Lib.hid (fun t => show atP k x t = (thereP k x t, 0) by simp [atP, hxl])
    have XT := Lib.hid (fun s (hs : s ∈ x) => (isStep_do (hxsp.2.2.2.1 s hs)).2)
    obtain ⟨A, hA⟩ : ∃ A : Int, A = if t < 1000 then max t lt else t := ⟨_, rfl⟩
    have hA1 : capT t ≤ A := by rw [hA]; unfold capT; split <;> split <;> omega
    have hA2 : 1000 < t → A = t := fun h => by rw [hA, if_neg (by omega)]
    have HA := Lib.hid (And.intro hA (And.intro hA1 hA2))
    clear he he2 hxl hthere hneeds hxsp hx hA hA1 hA2 hc1000
    go_enter Try.func12, Try.ntmps12
    go_wp2_with fail
    refine named_box2 (G := fun W => Calls _ _ _ W _) w _ _ _ _ fun w2 hb hz hx0 hx1 => ?_
    replace RS := Lib.hid (RS.out.below hb)
    replace RU := Lib.hid (RU.out.below hb)
    replace HB := Lib.hid (HB.out.trans (hb.mono HB.out.size))
    clear hb
    have c0 : w2.cell? ⟨w.heap.size, 0, none⟩ = some (.int .i64 k) := cell_blk hx0 0
    have c1 : w2.cell? ⟨w.heap.size, 1, none⟩ = some (.slice a l.length c) := cell_blk hx0 1
    have c2 : w2.cell? ⟨w.heap.size + 1, 0, none⟩ = some (.int .i64 t) := cell_blk hx1 0
    clear hx0 hx1 hz
    refine (g_slim t k x 0 RS.out E1.out).mono ?_
    rintro e w1 ⟨aX, cX, rfl, rx, hb, _⟩
    replace c0 := below_cell hb c0
    replace c1 := below_cell hb c1
    replace c2 := below_cell hb c2
    replace RS := Lib.hid (RS.out.below hb)
    replace RU := Lib.hid (RU.out.below hb)
    replace HB := Lib.hid (HB.out.trans (hb.mono HB.out.size))
    clear hb
    have RX := Lib.hid rx
    clear rx
    have e_c0 := fun o => below_cell ((Below.refl _ _).alloc (Nat.le_refl w1.heap.size) o) c0
    have e_c1 := fun o => below_cell ((Below.refl _ _).alloc (Nat.le_refl w1.heap.size) o) c1
    have e_c2 := fun o => below_cell ((Below.refl _ _).alloc (Nat.le_refl w1.heap.size) o) c2
    go_wp2_with fail
    clear e_c0 e_c1 e_c2
    refine named_box1 (G := fun W => Calls _ _ _ W _) _ _ _ fun w2 hb hz hx => ?_
    replace c0 := below_cell hb c0
    replace c1 := below_cell hb c1
    replace c2 := below_cell hb c2
    replace RS := Lib.hid (RS.out.below hb)
    replace RU := Lib.hid (RU.out.below hb)
    replace RX := Lib.hid (RX.out.below hb)
    replace HB := Lib.hid (HB.out.trans (hb.mono HB.out.size))
    clear hb
    have d0 : w2.cell? ⟨w1.heap.size, 0, none⟩ = some (.int .i64 k) := cell_blk hx 0
    have d1 : w2.cell? ⟨w1.heap.size, 1, none⟩ = some (.slice aX x.length cX) := cell_blk hx 1
    clear hx hz
    generalize w1.heap.size = X at *
    refine (G1.out _ _ RS.out).mono ?_
    rintro e w1 ⟨rfl, hb⟩
    replace c0 := below_cell hb c0
    replace c1 := below_cell hb c1
    replace c2 := below_cell hb c2
    replace d0 := below_cell hb d0
    replace d1 := below_cell hb d1
    replace RS := Lib.hid (RS.out.below hb)
    replace RU := Lib.hid (RU.out.below hb)
    replace RX := Lib.hid (RX.out.below hb)
    replace HB := Lib.hid (HB.out.trans (hb.mono HB.out.size))
    clear hb
    go_upto_if 53 with (fail)
    go_cut [11] (fun v W => v = .int .i64 A ∧ W = w1)
    case first =>
      by_cases ht : t < 1000
      · have hAe : max t lt = A := by have := HA.out.1; rw [if_pos ht] at this; exact this.symm
        go_wp2
        go_meet
        exact ⟨rfl, rfl⟩
      · have hAe : A = t := by have := HA.out.1; rw [if_neg ht] at this; exact this
        have HAE := Lib.hid hAe
        clear hAe
        go_wp2
        go_meet
        exact ⟨by rw [HAE.out], rfl⟩
    case rest =>
      obtain ⟨rfl, hW⟩ := hcut
      have hW2 := hW.symm
      clear hW
      subst hW2
      go_wp2_with fail
      refine (g_at A _ 0 RX.out (A2.out A)).mono ?_
      rintro e w1 ⟨aE, cE, rfl, re, hb⟩
      replace c0 := below_cell hb c0
      replace c1 := below_cell hb c1
      replace c2 := below_cell hb c2
      replace d0 := below_cell hb d0
      replace d1 := below_cell hb d1
      replace RS := Lib.hid (RS.out.below hb)
      replace RU := Lib.hid (RU.out.below hb)
      replace RX := Lib.hid (RX.out.below hb)
      replace HB := Lib.hid (HB.out.trans (hb.mono HB.out.size))
      clear hb
      have RE := Lib.hid re
      clear re
      go_wp2_with fail
      refine (g_at A _ 0 RS.out (A1.out A)).mono ?_
      rintro e w1 ⟨aF, cF, rfl, rf, hb⟩
      replace c0 := below_cell hb c0
      replace c1 := below_cell hb c1
      replace c2 := below_cell hb c2
      replace d0 := below_cell hb d0
      replace d1 := below_cell hb d1
      replace RS := Lib.hid (RS.out.below hb)
      replace RU := Lib.hid (RU.out.below hb)
      replace RX := Lib.hid (RX.out.below hb)
      replace RE := Lib.hid (RE.out.below hb)
      replace HB := Lib.hid (HB.out.trans (hb.mono HB.out.size))
      clear hb
      have RF := Lib.hid rf
      clear rf
      have RE2 : Hid (Rd Pair.cells 2 w1 (.slice aE (thereP k x A).length cE) (thereP k l A)) := Lib.hid (by have := RE.out; rwa [HT.out A HA.out.2.1] at this ⊢)
      have HEQ := Lib.hid (HT.out A HA.out.2.1)
      clear RE
      go_wp2_with fail
      refine (g_slim t k x 0 RX.out E2.out).mono ?_
      rintro e w1 ⟨aG, cG, rfl, rg, hb, _⟩
      replace c0 := below_cell hb c0
      replace c1 := below_cell hb c1
      replace c2 := below_cell hb c2
      replace d0 := below_cell hb d0
      replace d1 := below_cell hb d1
      replace RS := Lib.hid (RS.out.below hb)
      replace RU := Lib.hid (RU.out.below hb)
      replace RX := Lib.hid (RX.out.below hb)
      replace RF := Lib.hid (RF.out.below hb)
      replace RE2 := Lib.hid (RE2.out.below hb)
      replace HB := Lib.hid (HB.out.trans (hb.mono HB.out.size))
      clear hb
      have RG := Lib.hid rg
      clear rg
      have e_c0 := fun o => below_cell ((Below.refl _ _).alloc (Nat.le_refl w1.heap.size) o) c0
      have e_c1 := fun o => below_cell ((Below.refl _ _).alloc (Nat.le_refl w1.heap.size) o) c1
      have e_c2 := fun o => below_cell ((Below.refl _ _).alloc (Nat.le_refl w1.heap.size) o) c2
      have e_d0 := fun o => below_cell ((Below.refl _ _).alloc (Nat.le_refl w1.heap.size) o) d0
      have e_d1 := fun o => below_cell ((Below.refl _ _).alloc (Nat.le_refl w1.heap.size) o) d1
      go_wp2_with fail
      clear e_c0 e_c1 e_c2 e_d0 e_d1
      refine named_box1 (G := fun W => Calls _ _ _ W _) _ _ _ fun w2 hb hz hx => ?_
      replace c0 := below_cell hb c0
      replace c1 := below_cell hb c1
      replace c2 := below_cell hb c2
      replace d0 := below_cell hb d0
      replace d1 := below_cell hb d1
      replace RS := Lib.hid (RS.out.below hb)
      replace RU := Lib.hid (RU.out.below hb)
      replace RX := Lib.hid (RX.out.below hb)
      replace RF := Lib.hid (RF.out.below hb)
      replace RE2 := Lib.hid (RE2.out.below hb)
      replace RG := Lib.hid (RG.out.below hb)
      replace HB := Lib.hid (HB.out.trans (hb.mono HB.out.size))
      clear hb
      have g0 : w2.cell? ⟨w1.heap.size, 0, none⟩ = some (.int .i64 k) := cell_blk hx 0
      have g1 : w2.cell? ⟨w1.heap.size, 1, none⟩ = some (.slice aG x.length cG) := cell_blk hx 1
      clear hx hz
      generalize w1.heap.size = Y at *
      refine (G2.out _ _ RX.out).mono ?_
      rintro e w1 ⟨rfl, hb⟩
      replace c0 := below_cell hb c0
      replace c1 := below_cell hb c1
      replace c2 := below_cell hb c2
      replace d0 := below_cell hb d0
      replace d1 := below_cell hb d1
      replace g0 := below_cell hb g0
      replace g1 := below_cell hb g1
      replace RS := Lib.hid (RS.out.below hb)
      replace RU := Lib.hid (RU.out.below hb)
      replace RX := Lib.hid (RX.out.below hb)
      replace RF := Lib.hid (RF.out.below hb)
      replace RE2 := Lib.hid (RE2.out.below hb)
      replace RG := Lib.hid (RG.out.below hb)
      replace HB := Lib.hid (HB.out.trans (hb.mono HB.out.size))
      clear hb
      go_wp2_with fail
      refine (k_equalPairs RE2.out RF.out).mono ?_
      rintro e w1 ⟨rfl, hb⟩
      replace c0 := below_cell hb c0
      replace c1 := below_cell hb c1
      replace c2 := below_cell hb c2
      replace d0 := below_cell hb d0
      replace d1 := below_cell hb d1
      replace g0 := below_cell hb g0
      replace g1 := below_cell hb g1
      replace RS := Lib.hid (RS.out.below hb)
      replace RU := Lib.hid (RU.out.below hb)
      replace RX := Lib.hid (RX.out.below hb)
      replace RF := Lib.hid (RF.out.below hb)
      replace RE2 := Lib.hid (RE2.out.below hb)
      replace RG := Lib.hid (RG.out.below hb)
      replace HB := Lib.hid (HB.out.trans (hb.mono HB.out.size))
      clear hb
      clear RE2
      go_wp2_with fail
      refine (k_same RG.out RX.out).mono ?_
      rintro e w1 ⟨rfl, hb⟩
      replace c0 := below_cell hb c0
      replace c1 := below_cell hb c1
      replace c2 := below_cell hb c2
      replace d0 := below_cell hb d0
      replace d1 := below_cell hb d1
      replace g0 := below_cell hb g0
      replace g1 := below_cell hb g1
      replace RS := Lib.hid (RS.out.below hb)
      replace RU := Lib.hid (RU.out.below hb)
      replace RX := Lib.hid (RX.out.below hb)
      replace RF := Lib.hid (RF.out.below hb)
      replace RG := Lib.hid (RG.out.below hb)
      replace HB := Lib.hid (HB.out.trans (hb.mono HB.out.size))
      clear hb
      clear RG g0 g1
      have e_c0 := fun o => below_cell ((Below.refl _ _).alloc (Nat.le_refl w1.heap.size) o) c0
      have e_d1 := fun o => below_cell ((Below.refl _ _).alloc (Nat.le_refl w1.heap.size) o) d1
      go_wp2
      clear e_c0 e_d1
      generalize hO : w1.heap.size = O at *
      have HO := Lib.hid hO
      clear hO
      go_loopw [109, 18] (fun i v W => ∃ (n : Nat) (g : Bool) (less : List Step) (a1 : Option Addr) (c1 : Nat), i = .int .i64 n ∧ v = .bool g ∧ n ≤ x.length ∧ g = (x.take n).any (idleP k t x) ∧ less.Sublist (x.take n) ∧ W.heap[O]? = some (.cells #[.int .i64 k, .slice a1 less.length c1] 25 (0, 0)) ∧ Win Step.cells 4 39 W (.slice a1 less.length c1) (fun j => O < j) less ∧ Below O w1 W) (fun i _ _ => x.length - (intOf i).toNat)
      case atStart => exact ⟨0, false, [], none, 0, rfl, rfl, by omega, by simp, List.nil_sublist _, by have := heap_alloc_new w1 (.cells #[.int .i64 k, .slice none 0 0] 25); rw [HO.out] at this; exact this, winC_nil _ _ _ _, by rw [← HO.out]; exact (Below.refl _ _).alloc (Nat.le_refl _) _⟩
      case round =>
        obtain ⟨n, g, less, a1, c1', rfl, rfl, hnl, hg, hsub, hOc, hw, hB⟩ := hrel
        have hb : Below w1.heap.size w1 wr := by rw [HO.out]; exact hB
        have w0h := hB
        replace c0 := below_cell hb c0
        replace c1 := below_cell hb c1
        replace c2 := below_cell hb c2
        replace d0 := below_cell hb d0
        replace d1 := below_cell hb d1
        replace RS := Lib.hid (RS.out.below hb)
        replace RU := Lib.hid (RU.out.below hb)
        replace RX := Lib.hid (RX.out.below hb)
        replace RF := Lib.hid (RF.out.below hb)
        replace HB := Lib.hid (HB.out.trans (hb.mono HB.out.size))
        clear hb
        have hOl : O < wr.heap.size := (Array.getElem?_eq_some_iff.1 hOc).1
        by_cases hlt : n < x.length
        · have hx := List.getElem?_eq_getElem hlt
          have hms : x[n] ∈ x := List.getElem_mem hlt
          generalize x[n] = s at hx hms
          obtain ⟨b, off, hav, hbl, hc⟩ := rd_at RX.out hx
          subst hav
          have q0 : wr.cell? ⟨b, off + n * 4, none⟩ = some (.int .i64 s.at_) := hc 0 _ rfl
          have q1 := hc 1 _ rfl
          have q2 := hc 2 _ rfl
          have q3 := hc 3 _ rfl
          have hts := XT.out s hms
          have hwr1 : IntKind.i64.wrap (s.at_ - 1) = s.at_ - 1 := Go.IntWalk.i64_in _ (by omega)
          have HX := Lib.hid (And.intro hx (And.intro hsub (And.intro hg (And.intro hOc (And.intro hw hB)))))
          clear hx hms hc hts hsub hg hOc hw hB w0h
          have e_c0 := fun o => below_cell ((Below.refl _ _).alloc (Nat.le_refl wr.heap.size) o) c0
          have e_c1 := fun o => below_cell ((Below.refl _ _).alloc (Nat.le_refl wr.heap.size) o) c1
          have e_c2 := fun o => below_cell ((Below.refl _ _).alloc (Nat.le_refl wr.heap.size) o) c2
          have e_d0 := fun o => below_cell ((Below.refl _ _).alloc (Nat.le_refl wr.heap.size) o) d0
          have e_d1 := fun o => below_cell ((Below.refl _ _).alloc (Nat.le_refl wr.heap.size) o) d1
          go_upto_if 117 with (fail)
          go_cut [18] (fun v W => v = .bool (g || idleP k t x s) ∧ Below wr.heap.size wr W ∧ W.cell? ⟨wr.heap.size, 0, none⟩ = some (.int .i64 s.at_) ∧ W.cell? ⟨wr.heap.size, 1, none⟩ = some (.int .i64 s.do_) ∧ W.cell? ⟨wr.heap.size, 2, none⟩ = some (.int .i64 s.key) ∧ W.cell? ⟨wr.heap.size, 3, none⟩ = some (.int .i64 s.val))
          case first =>
            clear HB
            have HB := Lib.hid (Below.refl wr.heap.size wr)
            by_cases hat : t < s.at_
            · skip
              cases g
              all_goals
                go_wp2_with fail
                clear e_c0 e_c1 e_c2 e_d0 e_d1
                refine named_box1 (G := fun W => Calls _ _ _ W _) _ _ _ fun w2 hb hz hx => ?_
                replace c0 := below_cell hb c0
                replace c1 := below_cell hb c1
                replace c2 := below_cell hb c2
                replace d0 := below_cell hb d0
                replace d1 := below_cell hb d1
                replace RS := Lib.hid (RS.out.below hb)
                replace RU := Lib.hid (RU.out.below hb)
                replace RX := Lib.hid (RX.out.below hb)
                replace RF := Lib.hid (RF.out.below hb)
                replace HB := Lib.hid (HB.out.trans (hb.mono HB.out.size))
                clear hb
                have s0 : w2.cell? ⟨wr.heap.size, 0, none⟩ = some (.int .i64 s.at_) := cell_blk hx 0
                have s1 : w2.cell? ⟨wr.heap.size, 1, none⟩ = some (.int .i64 s.do_) := cell_blk hx 1
                have s2 : w2.cell? ⟨wr.heap.size, 2, none⟩ = some (.int .i64 s.key) := cell_blk hx 2
                have s3 : w2.cell? ⟨wr.heap.size, 3, none⟩ = some (.int .i64 s.val) := cell_blk hx 3
                clear hx hz q0 q1 q2 q3
                refine (g_at (s.at_ - 1) _ 0 RX.out (A2.out _)).mono ?_
                rintro e w1 ⟨aP, cP, rfl, rp, hb⟩
                replace c0 := below_cell hb c0
                replace c1 := below_cell hb c1
                replace c2 := below_cell hb c2
                replace d0 := below_cell hb d0
                replace d1 := below_cell hb d1
                replace s0 := below_cell hb s0
                replace s1 := below_cell hb s1
                replace s2 := below_cell hb s2
                replace s3 := below_cell hb s3
                replace RS := Lib.hid (RS.out.below hb)
                replace RU := Lib.hid (RU.out.below hb)
                replace RX := Lib.hid (RX.out.below hb)
                replace RF := Lib.hid (RF.out.below hb)
                replace HB := Lib.hid (HB.out.trans (hb.mono HB.out.size))
                clear hb
                have RP := Lib.hid rp
                clear rp
                go_wp2_with fail
                refine (g_at s.at_ _ 0 RX.out (A2.out _)).mono ?_
                rintro e w1 ⟨aR, cR, rfl, rr, hb⟩
                replace c0 := below_cell hb c0
                replace c1 := below_cell hb c1
                replace c2 := below_cell hb c2
                replace d0 := below_cell hb d0
                replace d1 := below_cell hb d1
                replace s0 := below_cell hb s0
                replace s1 := below_cell hb s1
                replace s2 := below_cell hb s2
                replace s3 := below_cell hb s3
                replace RS := Lib.hid (RS.out.below hb)
                replace RU := Lib.hid (RU.out.below hb)
                replace RX := Lib.hid (RX.out.below hb)
                replace RF := Lib.hid (RF.out.below hb)
                replace RP := Lib.hid (RP.out.below hb)
                replace HB := Lib.hid (HB.out.trans (hb.mono HB.out.size))
                clear hb
                have RR := Lib.hid rr
                clear rr
              · skip
                go_wp2_with fail
                refine (equalPairs_any _ _ (thereP k x (s.at_ - 1)) (thereP k x s.at_) _ RP.out RR.out).mono ?_
                rintro e w1 ⟨rfl, hb⟩
                replace c0 := below_cell hb c0
                replace c1 := below_cell hb c1
                replace c2 := below_cell hb c2
                replace d0 := below_cell hb d0
                replace d1 := below_cell hb d1
                replace s0 := below_cell hb s0
                replace s1 := below_cell hb s1
                replace s2 := below_cell hb s2
                replace s3 := below_cell hb s3
                replace RS := Lib.hid (RS.out.below hb)
                replace RU := Lib.hid (RU.out.below hb)
                replace RX := Lib.hid (RX.out.below hb)
                replace RF := Lib.hid (RF.out.below hb)
                replace RP := Lib.hid (RP.out.below hb)
                replace RR := Lib.hid (RR.out.below hb)
                replace HB := Lib.hid (HB.out.trans (hb.mono HB.out.size))
                clear hb
                go_wp2
                go_meet
                exact ⟨by simp [idleP, hat], HB.out, s0, s1, s2, s3⟩
              · skip
                go_wp2
                go_meet
                exact ⟨rfl, HB.out, s0, s1, s2, s3⟩
            · go_wp2
              go_meet
              exact ⟨by rw [idleP, decide_eq_false (show ¬ t < s.at_ by omega), Bool.false_and, Bool.or_false], (Below.refl _ _).alloc (Nat.le_refl _) _, box_at wr _ _ 0, box_at wr _ _ 1, box_at wr _ _ 2, box_at wr _ _ 3⟩
          case rest =>
            obtain ⟨rfl, hbr, s0, s1, s2, s3⟩ := hcut
            obtain ⟨wN, rfl⟩ : ∃ y : World, y = wc := ⟨wc, rfl⟩
            clear q0 q1 q2 q3 e_c0 e_c1 e_c2 e_d0 e_d1
            have hOcN := (hbr.block O hOl).trans HX.out.2.2.2.1
            have hwN := winC_move HX.out.2.2.2.2.1 (fr_of_below (S := fun _ => False) hbr) (fun _ _ h => h)
            have HS := Lib.hid (And.intro hOcN (And.intro hwN (And.intro (And.intro HX.out.1 HX.out.2.1) (HX.out.2.2.2.2.2.trans (hbr.mono (Nat.le_of_lt hOl))))))
            have o0 := cell_blk hOcN 0
            have o1 := cell_blk hOcN 1
            have HOW := Lib.hid (winC_ob hwN)
            obtain ⟨g', hg'⟩ : ∃ g', g' = (g || idleP k t x s) := ⟨_, rfl⟩
            rw [← hg']
            have HG : Hid (g' = (x.take (n + 1)).any (idleP k t x)) := Lib.hid (by rw [hg', List.take_add_one, HX.out.1, HX.out.2.2.1]; simp)
            have hb := hbr
            have hOl : O < wN.heap.size := Nat.lt_of_lt_of_le hOl hbr.size
            clear hOcN hwN hg' hbr
            replace c0 := below_cell hb c0
            replace c1 := below_cell hb c1
            replace c2 := below_cell hb c2
            replace d0 := below_cell hb d0
            replace d1 := below_cell hb d1
            replace RS := Lib.hid (RS.out.below hb)
            replace RU := Lib.hid (RU.out.below hb)
            replace RX := Lib.hid (RX.out.below hb)
            replace RF := Lib.hid (RF.out.below hb)
            replace HB := Lib.hid (HB.out.trans (hb.mono HB.out.size))
            clear hb
            have hlx : less.length ≤ n := by have := HS.out.2.2.1.2.length_le; simp at this; omega
            
            by_cases hnz : n < zs.length
            · have hx := List.getElem?_eq_getElem hnz
              have hmem : zs[n] ∈ zs := List.getElem_mem hnz
              generalize zs[n] = z at hx hmem
              obtain ⟨hz0, hz1⟩ := HZ.out z hmem
              obtain ⟨bu, ou, hau, _, hcu⟩ := rd_at RU.out hx
              subst hau
              have q0 : wN.cell? ⟨bu, ou + n * 1, none⟩ = some (.int .u8 z) := hcu 0 _ rfl
              rw [Nat.mul_one] at q0
              clear hx hcu hmem
              by_cases hzm : 0 < z % 3
              · skip
                go_wp2_with (at_builtin; (refine wpList_append_win _ (by rfl) _ _ _ (by rfl) 39 4 32 _ Try.underlying23 info_step rfl (by decide) _ _ less.length _ (by rfl) (winC_move HS.out.2.1 (fr_alloc (fun _ => False) _ _) (fun _ _ h => h)) _ _ _ [.int .i64 s.at_, .int .i64 s.do_, .int .i64 s.key, .int .i64 s.val] (by rfl) (by rfl) (World.news_of_block (heap_alloc_new _ _)) (by simp [Value.oneCell']) (by decide) (by unfold maxLen; omega) (by omega) ?_); intro v3 w5 hwin3 hfr3 hsz3; obtain ⟨a4, c4, rfl, hn4, hm4⟩ := winC_slice hwin3; have F3 : Fr (fun i => some i = (Value.slice a1 less.length c1').ownBlock) wN w5 := fr_trans (fr_alloc _ wN _) hfr3 fun _ _ h => h; have c5 := fr_cell F3 o1 (fun h => by have : O < O := (HOW.out O h).1; omega); have k5 := fr_frozen F3 hOl (free_blk HS.out.1 1) (fun h => by have : O < O := (HOW.out O h).1; omega); have H5 := Lib.hid (And.intro hwin3 F3); clear hwin3 F3 hfr3)
                have hwA := H5.out.1
                have F5 := H5.out.2
                have hoA := (F5.block O hOl (fun h => by have : O < O := (HOW.out O h).1; omega)).trans HS.out.1
                have hoB := setCell_blk (o := 1) hoA (.slice a4 (less.length + 1) c4)
                have hBn : Below O _ (w5.setCell ⟨O, 1, none⟩ (.slice a4 (less.length + 1) c4)) := (HS.out.2.2.2).trans (below_of_fr (fr_trans (fr_mono F5 fun i hi => show O ≤ i by have := (HOW.out i hi).1; omega) (fr_setCell w5 ⟨O, 1, none⟩ (.slice a4 (less.length + 1) c4)) (S := fun i => O ≤ i) fun i hi h => by have h2 : i = O := h; omega) (by omega) fun i hi => hi)
                have hw6 := winC_move hwA (fr_setCell w5 ⟨O, 1, none⟩ (.slice a4 (less.length + 1) c4)) fun i hi (h : i = O) => by
                  rcases hi with hi | hi
                  · have := hi.1; omega
                  · simp at hi; omega
                have HZ3 := Lib.hid (And.intro hoB (And.intro hBn hw6))
                clear hwA F5 hoA hoB hBn hw6 c5 k5
                generalize w5.setCell ⟨O, 1, none⟩ (.slice a4 (less.length + 1) c4) = w6 at *
                go_roundw
                case rel =>
                  refine ⟨n + 1, g', less ++ [s], a4, c4, by go_num, rfl, by omega, HG.out, ?_, by rw [List.length_append]; exact HZ3.out.1, ?_, HZ3.out.2.1⟩
                  · rw [List.take_add_one, HS.out.2.2.1.1]
                    exact HS.out.2.2.1.2.append (List.Sublist.refl _)
                  · have h7 : WinC 4 39 w6 (.slice a4 (less.length + 1) c4) (fun j => O < j) (less.length + 1) (less.flatMap Step.cells ++ [.int .i64 s.at_, .int .i64 s.do_, .int .i64 s.key, .int .i64 s.val]) := winC_mono HZ3.out.2.2 fun i hi => by
                      rcases hi with hi | hi
                      · exact hi.1
                      · simp at hi; omega
                    simpa [Win, Step.cells] using h7
                case measure => simp [intOf]; omega

              · skip
                go_wp2
                go_roundw
                case rel => exact ⟨n + 1, g', less, a1, c1', by go_num, rfl, by omega, HG.out, by rw [List.take_add_one]; exact HS.out.2.2.1.2.trans (List.sublist_append_left _ _), HS.out.1, HS.out.2.1, HS.out.2.2.2⟩
                case measure => simp [intOf]; omega
            · skip
              go_wp2_with (at_builtin; (refine wpList_append_win _ (by rfl) _ _ _ (by rfl) 39 4 32 _ Try.underlying23 info_step rfl (by decide) _ _ less.length _ (by rfl) (winC_move HS.out.2.1 (fr_alloc (fun _ => False) _ _) (fun _ _ h => h)) _ _ _ [.int .i64 s.at_, .int .i64 s.do_, .int .i64 s.key, .int .i64 s.val] (by rfl) (by rfl) (World.news_of_block (heap_alloc_new _ _)) (by simp [Value.oneCell']) (by decide) (by unfold maxLen; omega) (by omega) ?_); intro v3 w5 hwin3 hfr3 hsz3; obtain ⟨a4, c4, rfl, hn4, hm4⟩ := winC_slice hwin3; have F3 : Fr (fun i => some i = (Value.slice a1 less.length c1').ownBlock) wN w5 := fr_trans (fr_alloc _ wN _) hfr3 fun _ _ h => h; have c5 := fr_cell F3 o1 (fun h => by have : O < O := (HOW.out O h).1; omega); have k5 := fr_frozen F3 hOl (free_blk HS.out.1 1) (fun h => by have : O < O := (HOW.out O h).1; omega); have H5 := Lib.hid (And.intro hwin3 F3); clear hwin3 F3 hfr3)
              have hwA := H5.out.1
              have F5 := H5.out.2
              have hoA := (F5.block O hOl (fun h => by have : O < O := (HOW.out O h).1; omega)).trans HS.out.1
              have hoB := setCell_blk (o := 1) hoA (.slice a4 (less.length + 1) c4)
              have hBn : Below O _ (w5.setCell ⟨O, 1, none⟩ (.slice a4 (less.length + 1) c4)) := (HS.out.2.2.2).trans (below_of_fr (fr_trans (fr_mono F5 fun i hi => show O ≤ i by have := (HOW.out i hi).1; omega) (fr_setCell w5 ⟨O, 1, none⟩ (.slice a4 (less.length + 1) c4)) (S := fun i => O ≤ i) fun i hi h => by have h2 : i = O := h; omega) (by omega) fun i hi => hi)
              have hw6 := winC_move hwA (fr_setCell w5 ⟨O, 1, none⟩ (.slice a4 (less.length + 1) c4)) fun i hi (h : i = O) => by
                rcases hi with hi | hi
                · have := hi.1; omega
                · simp at hi; omega
              have HZ3 := Lib.hid (And.intro hoB (And.intro hBn hw6))
              clear hwA F5 hoA hoB hBn hw6 c5 k5
              generalize w5.setCell ⟨O, 1, none⟩ (.slice a4 (less.length + 1) c4) = w6 at *
              go_roundw
              case rel =>
                refine ⟨n + 1, g', less ++ [s], a4, c4, by go_num, rfl, by omega, HG.out, ?_, by rw [List.length_append]; exact HZ3.out.1, ?_, HZ3.out.2.1⟩
                · rw [List.take_add_one, HS.out.2.2.1.1]
                  exact HS.out.2.2.1.2.append (List.Sublist.refl _)
                · have h7 : WinC 4 39 w6 (.slice a4 (less.length + 1) c4) (fun j => O < j) (less.length + 1) (less.flatMap Step.cells ++ [.int .i64 s.at_, .int .i64 s.do_, .int .i64 s.key, .int .i64 s.val]) := winC_mono HZ3.out.2.2 fun i hi => by
                    rcases hi with hi | hi
                    · exact hi.1
                    · simp at hi; omega
                  simpa [Win, Step.cells] using h7
              case measure => simp [intOf]; omega

        · obtain rfl : n = x.length := by omega
          rw [List.take_length] at hg hsub
          have RL := Lib.hid (win_rd step_len hw)
          have hlx := hsub.length_le
          have o0 := cell_blk hOc 0
          have o1 := cell_blk hOc 1
          have E3 : isLineP k less = true := by
            have hs := isLineP_spec XL.out
            exact isLineP_mk hs.1 hs.2.1 (by omega) (fun y hy => hs.2.2.2.1 y (hsub.subset hy)) ((line_strict XL.out).sublist hsub)
          have A3 := Lib.hid (show atP k less t = (thereP k less t, 0) by simp [atP, E3])
          have E4 := Lib.hid (show diffP k less k x = (diffOf k less x, 0) by have hx1 := XL.out; simp [diffP, E3, hx1])
          obtain ⟨w1, rfl⟩ : ∃ y : World, y = wr := ⟨wr, rfl⟩
          have HSUB := Lib.hid (And.intro hg hsub)
          clear hOc hw hB w0h E3 hg hsub hOl
          cases g
          · by_cases heq : less.length = x.length
            · skip
              go_wp2_with fail
              refine (known_any _).mono ?_
              rintro e w1 ⟨rfl, hb⟩
              replace c0 := below_cell hb c0
              replace c1 := below_cell hb c1
              replace c2 := below_cell hb c2
              replace d0 := below_cell hb d0
              replace d1 := below_cell hb d1
              replace o0 := below_cell hb o0
              replace o1 := below_cell hb o1
              replace RS := Lib.hid (RS.out.below hb)
              replace RU := Lib.hid (RU.out.below hb)
              replace RX := Lib.hid (RX.out.below hb)
              replace RF := Lib.hid (RF.out.below hb)
              replace RL := Lib.hid (RL.out.below hb)
              replace HB := Lib.hid (HB.out.trans (hb.mono HB.out.size))
              clear hb
              go_wp2
              go_ret
              exact ⟨rfl, HB.out⟩
            · have hidle : ∀ s, s ∈ x → t < s.at_ → thereP k x (s.at_ - 1) ≠ thereP k x s.at_ := fun s hs hat he => by
                have h := HSUB.out.1
                have : (x.any (idleP k t x)) = true := List.any_eq_true.2 ⟨s, hs, by rw [idleP, decide_eq_true hat, decide_eq_true he]; rfl⟩
                rw [this] at h; exact absurd h (by decide)
              have hn := HN.out less HSUB.out.2 (by omega) hidle
              have HN2 := Lib.hid hn
              clear hn hidle
              by_cases ht1 : 1000 < t
              · skip
                have hne : decide (thereP k less t = thereP k l A) = false := decide_eq_false (by rw [← HEQ.out, HA.out.2.2 ht1]; exact HN2.out.1 ht1)
                have HNE := Lib.hid hne
                clear hne
                go_wp2_with fail
                refine (g_at t _ 0 RL.out A3.out).mono ?_
                rintro e w1 ⟨aP, cP, rfl, rp, hb⟩
                replace c0 := below_cell hb c0
                replace c1 := below_cell hb c1
                replace c2 := below_cell hb c2
                replace d0 := below_cell hb d0
                replace d1 := below_cell hb d1
                replace o0 := below_cell hb o0
                replace o1 := below_cell hb o1
                replace RS := Lib.hid (RS.out.below hb)
                replace RU := Lib.hid (RU.out.below hb)
                replace RX := Lib.hid (RX.out.below hb)
                replace RF := Lib.hid (RF.out.below hb)
                replace RL := Lib.hid (RL.out.below hb)
                replace HB := Lib.hid (HB.out.trans (hb.mono HB.out.size))
                clear hb
                have RP := Lib.hid rp
                clear rp
                go_wp2_with fail
                refine (equalPairs_any _ _ (thereP k less t) (thereP k l A) _ RP.out RF.out).mono ?_
                rintro e w1 ⟨rfl, hb⟩
                replace c0 := below_cell hb c0
                replace c1 := below_cell hb c1
                replace c2 := below_cell hb c2
                replace d0 := below_cell hb d0
                replace d1 := below_cell hb d1
                replace o0 := below_cell hb o0
                replace o1 := below_cell hb o1
                replace RS := Lib.hid (RS.out.below hb)
                replace RU := Lib.hid (RU.out.below hb)
                replace RX := Lib.hid (RX.out.below hb)
                replace RF := Lib.hid (RF.out.below hb)
                replace RL := Lib.hid (RL.out.below hb)
                replace RP := Lib.hid (RP.out.below hb)
                replace HB := Lib.hid (HB.out.trans (hb.mono HB.out.size))
                clear hb
                rw [HNE.out]
                go_wp2_with fail
                refine (known_any _).mono ?_
                rintro e w1 ⟨rfl, hb⟩
                replace c0 := below_cell hb c0
                replace c1 := below_cell hb c1
                replace c2 := below_cell hb c2
                replace d0 := below_cell hb d0
                replace d1 := below_cell hb d1
                replace o0 := below_cell hb o0
                replace o1 := below_cell hb o1
                replace RS := Lib.hid (RS.out.below hb)
                replace RU := Lib.hid (RU.out.below hb)
                replace RX := Lib.hid (RX.out.below hb)
                replace RF := Lib.hid (RF.out.below hb)
                replace RL := Lib.hid (RL.out.below hb)
                replace RP := Lib.hid (RP.out.below hb)
                replace HB := Lib.hid (HB.out.trans (hb.mono HB.out.size))
                clear hb
                go_wp2
                go_ret
                exact ⟨rfl, HB.out⟩
              · skip
                have hne : (diffOf k less x).any (fun d => decide (t ≤ d.to_)) = true := by
                  obtain ⟨d, hd1, hd2⟩ := HN2.out.2 (by omega)
                  exact List.any_eq_true.2 ⟨d, hd1, decide_eq_true hd2⟩
                generalize diffOf k less x = ds at *
                have HNE := Lib.hid hne
                clear hne
                go_wp2_with fail
                refine (g_diff ds 0 RL.out RX.out E4.out).mono ?_
                rintro e w1 ⟨aD, cD, rfl, rd, hb⟩
                replace c0 := below_cell hb c0
                replace c1 := below_cell hb c1
                replace c2 := below_cell hb c2
                replace d0 := below_cell hb d0
                replace d1 := below_cell hb d1
                replace o0 := below_cell hb o0
                replace o1 := below_cell hb o1
                replace RS := Lib.hid (RS.out.below hb)
                replace RU := Lib.hid (RU.out.below hb)
                replace RX := Lib.hid (RX.out.below hb)
                replace RF := Lib.hid (RF.out.below hb)
                replace RL := Lib.hid (RL.out.below hb)
                replace HB := Lib.hid (HB.out.trans (hb.mono HB.out.size))
                clear hb
                have RD := Lib.hid rd
                clear rd
                have HCF := Lib.hid (spans_has 46 (.pointer (some ⟨w.heap.size + 1, 0, none⟩)) (fun d => decide (t ≤ d.to_)) _ ds w1 RD.out (enters_of Try.func46 (by kernel_rfl) rfl) (fun W x hx hW => toSpan_any x.from_ x.to_ t _ W (below_cell hW c2)))
                rw [HNE.out] at HCF
                go_wp2_with fail
                refine (HCF.out).mono ?_
                rintro e w1 ⟨rfl, hb⟩
                replace c0 := below_cell hb c0
                replace c1 := below_cell hb c1
                replace c2 := below_cell hb c2
                replace d0 := below_cell hb d0
                replace d1 := below_cell hb d1
                replace o0 := below_cell hb o0
                replace o1 := below_cell hb o1
                replace RS := Lib.hid (RS.out.below hb)
                replace RU := Lib.hid (RU.out.below hb)
                replace RX := Lib.hid (RX.out.below hb)
                replace RF := Lib.hid (RF.out.below hb)
                replace RL := Lib.hid (RL.out.below hb)
                replace RD := Lib.hid (RD.out.below hb)
                replace HB := Lib.hid (HB.out.trans (hb.mono HB.out.size))
                clear hb
                go_wp2_with fail
                refine (known_any _).mono ?_
                rintro e w1 ⟨rfl, hb⟩
                replace c0 := below_cell hb c0
                replace c1 := below_cell hb c1
                replace c2 := below_cell hb c2
                replace d0 := below_cell hb d0
                replace d1 := below_cell hb d1
                replace o0 := below_cell hb o0
                replace o1 := below_cell hb o1
                replace RS := Lib.hid (RS.out.below hb)
                replace RU := Lib.hid (RU.out.below hb)
                replace RX := Lib.hid (RX.out.below hb)
                replace RF := Lib.hid (RF.out.below hb)
                replace RL := Lib.hid (RL.out.below hb)
                replace RD := Lib.hid (RD.out.below hb)
                replace HB := Lib.hid (HB.out.trans (hb.mono HB.out.size))
                clear hb
                go_wp2
                go_ret
                exact ⟨rfl, HB.out⟩
          · skip
            go_wp2_with fail
            refine (known_any _).mono ?_
            rintro e w1 ⟨rfl, hb⟩
            replace c0 := below_cell hb c0
            replace c1 := below_cell hb c1
            replace c2 := below_cell hb c2
            replace d0 := below_cell hb d0
            replace d1 := below_cell hb d1
            replace o0 := below_cell hb o0
            replace o1 := below_cell hb o1
            replace RS := Lib.hid (RS.out.below hb)
            replace RU := Lib.hid (RU.out.below hb)
            replace RX := Lib.hid (RX.out.below hb)
            replace RF := Lib.hid (RF.out.below hb)
            replace RL := Lib.hid (RL.out.below hb)
            replace HB := Lib.hid (HB.out.trans (hb.mono HB.out.size))
            clear hb
            go_wp2
            go_ret
            exact ⟨rfl, HB.out⟩
end Go.Proofs.Ytkoeplbkeboklaa
