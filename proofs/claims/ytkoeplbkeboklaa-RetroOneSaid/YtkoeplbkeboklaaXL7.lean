/- The law RetroSpans, walked. (Printed by laws7.py.) -/
import Derived.Test.YtkoeplbkeboklaaXL6
import Derived.Test.YtkoeplbkeboklaaXL5
import Derived.Test.YtkoeplbkeboklaaXP14
import Derived.IntWalk
set_option linter.unusedVariables false
set_option linter.unusedSimpArgs false
namespace Go.Proofs.Ytkoeplbkeboklaa
open Go.RowKit
theorem pair_at {α : Type} {R : α → α → Prop} {l : List α} (h : l.Pairwise R) {i j : Nat} {x y : α} (hi : l[i]? = some x) (hj : l[j]? = some y) (hij : i < j) : R x y := by
  obtain ⟨h1, rfl⟩ := List.getElem?_eq_some_iff.1 hi
  obtain ⟨h2, rfl⟩ := List.getElem?_eq_some_iff.1 hj
  exact List.pairwise_iff_getElem.1 h i j h1 h2 hij
def inSpan (t : Int) (d : Span) : Bool := decide (d.from_ ≤ t) && decide (t ≤ d.to_)
theorem spans_within {k : Int} {a b : List Step} (ht : ∀ s ∈ a ++ b, 0 ≤ s.at_ ∧ s.at_ ≤ 1000) {t : Int} (h0 : 0 ≤ t) (h1 : t ≤ 1000) : (diffOf k a b).any (inSpan t) = !decide (thereP k a t = thereP k b t) := by
  have h := (diffOf_spans (k := k) ht).cover t h0 (by omega)
  rw [Bool.eq_iff_iff]
  simp only [List.any_eq_true, inSpan, Bool.and_eq_true, decide_eq_true_eq, Bool.not_eq_true', decide_eq_false_iff_not]
  exact h
set_option maxRecDepth 100000 in
set_option maxHeartbeats 8000000 in
theorem w_RetroSpans (k : Int) (u : Value) (l : List Step) (k2 : Int) (u2 : Value) (l2 : List Step) (t : Int) (w : World) (hr : Rd Step.cells 4 w u l) (hr2 : Rd Step.cells 4 w u2 l2) (h0 : 0 ≤ t) (h1 : t ≤ 65535) :
    Calls Try.prog 11 #[.agg #[.int .i64 k, u], .agg #[.int .i64 k2, u2], .int .u16 t] w fun e w' => e = .returned (.bool true) ∧ Below w.heap.size w w' := by
  obtain ⟨a, c, rfl⟩ : ∃ a c, u = .slice a l.length c := by obtain ⟨_, a, c, rfl, _⟩ := hr; exact ⟨a, c, rfl⟩
  obtain ⟨a2, c2', rfl⟩ : ∃ a c, u2 = .slice a l2.length c := by obtain ⟨_, a, c, rfl, _⟩ := hr2; exact ⟨a, c, rfl⟩
  have HB := Lib.hid (Below.refl w.heap.size w)
  have RS := Lib.hid hr
  have RQ := Lib.hid hr2
  clear hr hr2
  cases hok : (isLineP k l && isLineP k2 l2 && decide (k = k2)) with
  | false =>
    have he : diffP k l k2 l2 = ([], 2) := by simp [diffP, hok]
    have E1 := Lib.hid he
    clear he hok
    go_enter Try.func11, Try.ntmps11
    go_wp2_with fail
    refine named_box2 (G := fun W => Calls _ _ _ W _) w _ _ _ _ fun w2 hb hz hx0 hx1 => ?_
    replace RS := Lib.hid (RS.out.below hb)
    replace RQ := Lib.hid (RQ.out.below hb)
    replace HB := Lib.hid (HB.out.trans (hb.mono HB.out.size))
    clear hb
    have c0 : w2.cell? ⟨w.heap.size, 0, none⟩ = some (.int .i64 k) := cell_blk hx0 0
    have c1 : w2.cell? ⟨w.heap.size, 1, none⟩ = some (.slice a l.length c) := cell_blk hx0 1
    have c2 : w2.cell? ⟨w.heap.size + 1, 0, none⟩ = some (.int .i64 k2) := cell_blk hx1 0
    have c3 : w2.cell? ⟨w.heap.size + 1, 1, none⟩ = some (.slice a2 l2.length c2') := cell_blk hx1 1
    clear hx0 hx1 hz
    refine (g_diff [] 2 RS.out RQ.out E1.out).mono ?_
    rintro e w1 ⟨aA, cA, rfl, ra, hb⟩
    replace c0 := below_cell hb c0
    replace c1 := below_cell hb c1
    replace c2 := below_cell hb c2
    replace c3 := below_cell hb c3
    replace RS := Lib.hid (RS.out.below hb)
    replace RQ := Lib.hid (RQ.out.below hb)
    replace HB := Lib.hid (HB.out.trans (hb.mono HB.out.size))
    clear hb
    clear ra
    go_wp2_with fail
    refine (known_any _).mono ?_
    rintro e w1 ⟨rfl, hb⟩
    replace c0 := below_cell hb c0
    replace c1 := below_cell hb c1
    replace c2 := below_cell hb c2
    replace c3 := below_cell hb c3
    replace RS := Lib.hid (RS.out.below hb)
    replace RQ := Lib.hid (RQ.out.below hb)
    replace HB := Lib.hid (HB.out.trans (hb.mono HB.out.size))
    clear hb
    go_wp2
    go_ret
    exact ⟨rfl, HB.out⟩
  | true =>
    have hok2 : isLineP k l = true ∧ isLineP k2 l2 = true ∧ k = k2 := by simpa [and_assoc] using hok
    obtain ⟨hl1, hl2, hk⟩ := hok2
    subst hk
    have he : diffP k l k l2 = (diffOf k l l2, 0) := by simp [diffP, hl1, hl2]
    have he2 : diffP k l k l = ([], 0) := by simp [diffP, hl1, diffOf_same]
    have E1 := Lib.hid he
    have E2 := Lib.hid he2
    have G1 := Lib.hid (fun W v (h : Rd Step.cells 4 W v l) => by have := good_any k v l W h; rwa [hl1] at this)
    have G2 := Lib.hid (fun W v (h : Rd Step.cells 4 W v l2) => by have := good_any k v l2 W h; rwa [hl2] at this)
    have A1 := Lib.hid (fun t => show atP k l t = (thereP k l t, 0) by simp [atP, hl1])
    have A2 := Lib.hid (fun t => show atP k l2 t = (thereP k l2 t, 0) by simp [atP, hl2])
    have SP := Lib.hid (diffOf_spans (k := k) (lines_time hl1 hl2))
    have WI := Lib.hid (fun t h0 h1 => spans_within (k := k) (lines_time hl1 hl2) (t := t) h0 h1)
    clear he he2 hok hl1 hl2
    go_enter Try.func11, Try.ntmps11
    go_wp2_with fail
    refine named_box2 (G := fun W => Calls _ _ _ W _) w _ _ _ _ fun w2 hb hz hx0 hx1 => ?_
    replace RS := Lib.hid (RS.out.below hb)
    replace RQ := Lib.hid (RQ.out.below hb)
    replace HB := Lib.hid (HB.out.trans (hb.mono HB.out.size))
    clear hb
    have c0 : w2.cell? ⟨w.heap.size, 0, none⟩ = some (.int .i64 k) := cell_blk hx0 0
    have c1 : w2.cell? ⟨w.heap.size, 1, none⟩ = some (.slice a l.length c) := cell_blk hx0 1
    have c2 : w2.cell? ⟨w.heap.size + 1, 0, none⟩ = some (.int .i64 k) := cell_blk hx1 0
    have c3 : w2.cell? ⟨w.heap.size + 1, 1, none⟩ = some (.slice a2 l2.length c2') := cell_blk hx1 1
    clear hx0 hx1 hz
    generalize hds : diffOf k l l2 = ds at *
    clear hds
    refine (g_diff ds 0 RS.out RQ.out E1.out).mono ?_
    rintro e w1 ⟨aA, cA, rfl, ra, hb⟩
    replace c0 := below_cell hb c0
    replace c1 := below_cell hb c1
    replace c2 := below_cell hb c2
    replace c3 := below_cell hb c3
    replace RS := Lib.hid (RS.out.below hb)
    replace RQ := Lib.hid (RQ.out.below hb)
    replace HB := Lib.hid (HB.out.trans (hb.mono HB.out.size))
    clear hb
    have RD := Lib.hid ra
    clear ra
    go_wp2_with fail
    refine (G1.out _ _ RS.out).mono ?_
    rintro e w1 ⟨rfl, hb⟩
    replace c0 := below_cell hb c0
    replace c1 := below_cell hb c1
    replace c2 := below_cell hb c2
    replace c3 := below_cell hb c3
    replace RS := Lib.hid (RS.out.below hb)
    replace RQ := Lib.hid (RQ.out.below hb)
    replace RD := Lib.hid (RD.out.below hb)
    replace HB := Lib.hid (HB.out.trans (hb.mono HB.out.size))
    clear hb
    go_wp2_with fail
    refine (G2.out _ _ RQ.out).mono ?_
    rintro e w1 ⟨rfl, hb⟩
    replace c0 := below_cell hb c0
    replace c1 := below_cell hb c1
    replace c2 := below_cell hb c2
    replace c3 := below_cell hb c3
    replace RS := Lib.hid (RS.out.below hb)
    replace RQ := Lib.hid (RQ.out.below hb)
    replace RD := Lib.hid (RD.out.below hb)
    replace HB := Lib.hid (HB.out.trans (hb.mono HB.out.size))
    clear hb
    have hd63 : ds.length ≤ 9223372036854775807 := RD.out.1
    go_wp2
    go_loopw [52] (fun i W => ∃ (n : Nat), i = .int .i64 n ∧ n ≤ ds.length ∧ Below w1.heap.size w1 W) (fun i _ => ds.length - (intOf i).toNat)
    case atStart => exact ⟨0, rfl, by omega, Below.refl _ _⟩
    case round =>
      obtain ⟨n, rfl, hnl, hB⟩ := hrel
      by_cases hlt : n < ds.length
      · have hx := List.getElem?_eq_getElem hlt
        have hmem : ds[n] ∈ ds := List.getElem_mem hlt
        generalize ds[n] = d at hx hmem
        have hrd := RD.out.below hB
        obtain ⟨b, off, rfl, hbl, hc⟩ := rd_at hrd hx
        have q0 : wr.cell? ⟨b, off + n * 2, none⟩ = some (.int .i64 d.from_) := hc 0 _ rfl
        have q1 := hc 1 _ rfl
        have hf := SP.out.form d hmem
        have b0 : decide (d.from_ < 0) = false := decide_eq_false (by omega)
        have b1 : decide (1000 < d.to_) = false := decide_eq_false (by omega)
        have b2 : decide (d.to_ < d.from_) = false := decide_eq_false (by omega)
        have hBr := fun o => hB.trans (((Below.refl wr.heap.size wr).alloc (Nat.le_refl _) o).mono hB.size)
        have HX := Lib.hid (And.intro hx hBr)
        clear hf hBr hmem hc
        rcases Nat.eq_zero_or_pos n with hn | hn
        · have b3 : decide (0 < n) = false := decide_eq_false (by omega)
          have HN := Lib.hid hn
          clear hx hrd hB hn
          go_wp2
          go_quiet (fail)
          go_wp2
          go_roundw
          case rel => exact ⟨n + 1, by go_num, by omega, below_drewN (HX.out.2 _) _⟩
          case measure => simp [intOf]; omega
        · obtain ⟨m, hm⟩ : ∃ m, n = m + 1 := ⟨n - 1, by omega⟩
          have b3 : decide (0 < n) = true := decide_eq_true (by omega)
          have hy := List.getElem?_eq_getElem (show m < ds.length by omega)
          generalize ds[m] = y at hy
          obtain ⟨b', off', he', _, hc'⟩ := rd_at hrd hy
          injection he' with he1
          injection he1 with h_1 h_2
          subst h_1
          subst h_2
          have y1 : wr.cell? ⟨b, off + m * 2 + 1, none⟩ = some (.int .i64 y.to_) := hc' 1 _ rfl
          have hap := pair_at SP.out.apart hy hx (by omega)
          have hyf := SP.out.form y (List.mem_of_getElem? hy)
          have b4 : decide (d.from_ ≤ y.to_ + 1) = false := decide_eq_false (by omega)
          have w1' : IntKind.i64.wrap (y.to_ + 1) = y.to_ + 1 := Go.IntWalk.i64_in _ (by omega)
          have w2' : IntKind.i64.wrap ((n : Int) - 1) = (m : Int) := by rw [Go.IntWalk.i64_in _ (by omega)]; omega
          have hml : m < ds.length := by omega
          have HN := Lib.hid (And.intro hm hap)
          clear hx hy hrd hB hc' hap hyf hm
          go_wp2
          go_quiet (fail)
          go_wp2
          go_roundw
          case rel => exact ⟨n + 1, by go_num, by omega, below_drewN (HX.out.2 _) _⟩
          case measure => simp [intOf]; omega
      · obtain rfl : n = ds.length := by omega
        have hb := hB
        clear hB
        replace c0 := below_cell hb c0
        replace c1 := below_cell hb c1
        replace c2 := below_cell hb c2
        replace c3 := below_cell hb c3
        replace RS := Lib.hid (RS.out.below hb)
        replace RQ := Lib.hid (RQ.out.below hb)
        replace RD := Lib.hid (RD.out.below hb)
        replace HB := Lib.hid (HB.out.trans (hb.mono HB.out.size))
        clear hb
        have e0 := fun o => below_cell ((Below.refl _ _).alloc (Nat.le_refl wr.heap.size) o) c0
        have e1 := fun o => below_cell ((Below.refl _ _).alloc (Nat.le_refl wr.heap.size) o) c1
        have e2 := fun o => below_cell ((Below.refl _ _).alloc (Nat.le_refl wr.heap.size) o) c2
        have e3 := fun o => below_cell ((Below.refl _ _).alloc (Nat.le_refl wr.heap.size) o) c3
        go_wp2_with fail
        clear e0 e1 e2 e3
        have ht0 : 0 ≤ t % 1001 := by omega
        have ht1 : t % 1001 ≤ 1000 := by omega
        generalize t % 1001 = z at *
        refine named_box1 (G := fun W => Calls _ _ _ W _) _ _ _ fun w2 hb hz hx => ?_
        replace c0 := below_cell hb c0
        replace c1 := below_cell hb c1
        replace c2 := below_cell hb c2
        replace c3 := below_cell hb c3
        replace RS := Lib.hid (RS.out.below hb)
        replace RQ := Lib.hid (RQ.out.below hb)
        replace RD := Lib.hid (RD.out.below hb)
        replace HB := Lib.hid (HB.out.trans (hb.mono HB.out.size))
        clear hb
        have tc : w2.cell? ⟨wr.heap.size, 0, none⟩ = some (.int .i64 z) := cell_blk hx 0
        clear hx hz
        generalize wr.heap.size = T at *
        refine (g_at z _ 0 RS.out (A1.out z)).mono ?_
        rintro e w1 ⟨aE, cE, rfl, re, hb⟩
        replace c0 := below_cell hb c0
        replace c1 := below_cell hb c1
        replace c2 := below_cell hb c2
        replace c3 := below_cell hb c3
        replace tc := below_cell hb tc
        replace RS := Lib.hid (RS.out.below hb)
        replace RQ := Lib.hid (RQ.out.below hb)
        replace RD := Lib.hid (RD.out.below hb)
        replace HB := Lib.hid (HB.out.trans (hb.mono HB.out.size))
        clear hb
        have RE := Lib.hid re
        clear re
        go_wp2_with fail
        refine (g_at z _ 0 RQ.out (A2.out z)).mono ?_
        rintro e w1 ⟨aF, cF, rfl, rf, hb⟩
        replace c0 := below_cell hb c0
        replace c1 := below_cell hb c1
        replace c2 := below_cell hb c2
        replace c3 := below_cell hb c3
        replace tc := below_cell hb tc
        replace RS := Lib.hid (RS.out.below hb)
        replace RQ := Lib.hid (RQ.out.below hb)
        replace RD := Lib.hid (RD.out.below hb)
        replace RE := Lib.hid (RE.out.below hb)
        replace HB := Lib.hid (HB.out.trans (hb.mono HB.out.size))
        clear hb
        have RF := Lib.hid rf
        clear rf
        have hwi := WI.out z ht0 ht1
        generalize hps : thereP k l z = ps at *
        generalize hqs : thereP k l2 z = qs at *
        have HCF := Lib.hid (spans_has 45 (.pointer (some ⟨T, 0, none⟩)) (inSpan z) _ ds w1 RD.out (enters_of Try.func45 (by kernel_rfl) rfl) (fun W x hx hW => inSpan_any x.from_ x.to_ z T W (below_cell hW tc)))
        rw [hwi] at HCF
        have HEQ := Lib.hid (fun W h1 h2 => equalPairs_any (.slice aE ps.length cE) (.slice aF qs.length cF) ps qs W h1 h2)
        clear hwi hps hqs
        generalize decide (ps = qs) = q at *
        cases q
        all_goals
          go_wp2_with fail
          refine (HCF.out).mono ?_
          rintro e w1 ⟨rfl, hb⟩
          replace c0 := below_cell hb c0
          replace c1 := below_cell hb c1
          replace c2 := below_cell hb c2
          replace c3 := below_cell hb c3
          replace tc := below_cell hb tc
          replace RS := Lib.hid (RS.out.below hb)
          replace RQ := Lib.hid (RQ.out.below hb)
          replace RD := Lib.hid (RD.out.below hb)
          replace RE := Lib.hid (RE.out.below hb)
          replace RF := Lib.hid (RF.out.below hb)
          replace HB := Lib.hid (HB.out.trans (hb.mono HB.out.size))
          clear hb
          go_wp2_with fail
          refine (g_diff [] 0 RS.out RS.out E2.out).mono ?_
          rintro e w1 ⟨aG, cG, rfl, rg, hb⟩
          replace c0 := below_cell hb c0
          replace c1 := below_cell hb c1
          replace c2 := below_cell hb c2
          replace c3 := below_cell hb c3
          replace tc := below_cell hb tc
          replace RS := Lib.hid (RS.out.below hb)
          replace RQ := Lib.hid (RQ.out.below hb)
          replace RD := Lib.hid (RD.out.below hb)
          replace RE := Lib.hid (RE.out.below hb)
          replace RF := Lib.hid (RF.out.below hb)
          replace HB := Lib.hid (HB.out.trans (hb.mono HB.out.size))
          clear hb
          clear rg
          go_wp2_with fail
          refine (HEQ.out _ RE.out RF.out).mono ?_
          rintro e w1 ⟨rfl, hb⟩
          replace c0 := below_cell hb c0
          replace c1 := below_cell hb c1
          replace c2 := below_cell hb c2
          replace c3 := below_cell hb c3
          replace tc := below_cell hb tc
          replace RS := Lib.hid (RS.out.below hb)
          replace RQ := Lib.hid (RQ.out.below hb)
          replace RD := Lib.hid (RD.out.below hb)
          replace RE := Lib.hid (RE.out.below hb)
          replace RF := Lib.hid (RF.out.below hb)
          replace HB := Lib.hid (HB.out.trans (hb.mono HB.out.size))
          clear hb
          go_wp2_with fail
          refine (known_any _).mono ?_
          rintro e w1 ⟨rfl, hb⟩
          replace c0 := below_cell hb c0
          replace c1 := below_cell hb c1
          replace c2 := below_cell hb c2
          replace c3 := below_cell hb c3
          replace tc := below_cell hb tc
          replace RS := Lib.hid (RS.out.below hb)
          replace RQ := Lib.hid (RQ.out.below hb)
          replace RD := Lib.hid (RD.out.below hb)
          replace RE := Lib.hid (RE.out.below hb)
          replace RF := Lib.hid (RF.out.below hb)
          replace HB := Lib.hid (HB.out.trans (hb.mono HB.out.size))
          clear hb
          go_wp2
          go_ret
          exact ⟨rfl, HB.out⟩
end Go.Proofs.Ytkoeplbkeboklaa
