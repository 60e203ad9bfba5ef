/- My texts of layer 14, joined: K0, L1, F0, G0. -/
import Derived.Test.YtkoeplbkeboklaaM7
import Derived.Deep.DeepCutAuto
import Derived.Deep.Slices
import Derived.Lib.SmallJoins
import Derived.ProofKit
/- Contracts in the form of closed examples: what a call yields where the plain answer is known. -/
set_option linter.unusedVariables false
set_option linter.unusedSimpArgs false
namespace Go.Proofs.Ytkoeplbkeboklaa
open Go.RowKit
theorem win_out {α : Type} {enc : α → List Value} {k e : Nat} {w : World} {v : Value} {S : Nat → Prop} {xs : List α} (hk : ∀ x, (enc x).length = k) (h : Win enc k e w v S xs) {ys : List α} (he : xs = ys) (n : Nat) (hn : ys.length = n) :
    ∃ a c, v = .slice a n c ∧ Rd enc k w (.slice a n c) ys := by
  subst he; subst hn
  have hr := win_rd hk h
  obtain ⟨a, c, rfl, _, _⟩ := winC_slice h
  exact ⟨a, c, rfl, hr⟩
theorem rd_new {α : Type} {enc : α → List Value} {k : Nat} (hk : ∀ x, (enc x).length = k) (e : Nat) {w : World} (xs : List α) (b n : Nat) (cs : Array Value) (h : w.heap[b]? = some (.cells cs e (0, 0))) (hc : cs.toList = xs.flatMap enc) (hn : xs.length = n) (hm : n ≤ maxLen) :
    Rd enc k w (.slice (some ⟨b, 0, none⟩) n n) xs := by
  subst hn
  exact win_rd hk (win_new hk e b cs h hc hm)
section
variable {w : World} {k : Int} {v : Value} {l : List Step}
theorem k_at (t : Int) (ps : List Pair) (n : Nat) (hr : Rd Step.cells 4 w v l) (he : atP k l t = (ps, 0)) (hn : ps.length = n) :
    Calls Try.prog 29 #[.agg #[.int .i64 k, v], .int .i64 t] w fun e w' => ∃ a c, e = .returned (.tuple #[.slice a n c, .int .i64 0]) ∧ Rd Pair.cells 2 w' (.slice a n c) ps ∧ Below w.heap.size w w' :=
  (at_any k v l t w hr).mono fun e w' ⟨v', h1, h2, h3⟩ => by
    rw [he] at h1 h2
    obtain ⟨a, c, rfl, hrd⟩ := win_out pair_len h2 rfl n hn
    exact ⟨a, c, h1, hrd, h3⟩
theorem k_lives (ps : List Life) (n : Nat) (hr : Rd Step.cells 4 w v l) (he : livesP k l = (ps, 0)) (hn : ps.length = n) :
    Calls Try.prog 14 #[.agg #[.int .i64 k, v]] w fun e w' => ∃ a c, e = .returned (.tuple #[.slice a n c, .int .i64 0]) ∧ Rd Life.cells 4 w' (.slice a n c) ps ∧ Below w.heap.size w w' :=
  (rLives_any k v l w hr).mono fun e w' ⟨v', h1, h2, h3⟩ => by
    rw [he] at h1 h2
    obtain ⟨a, c, rfl, hrd⟩ := win_out life_len h2 rfl n hn
    exact ⟨a, c, h1, hrd, h3⟩
theorem k_takes (ps : List Span) (n : Nat) (hr : Rd Step.cells 4 w v l) (he : takesP k l = (ps, 0)) (hn : ps.length = n) :
    Calls Try.prog 16 #[.agg #[.int .i64 k, v]] w fun e w' => ∃ a c, e = .returned (.tuple #[.slice a n c, .int .i64 0]) ∧ Rd Span.cells 2 w' (.slice a n c) ps ∧ Below w.heap.size w w' :=
  (rTakes_any k v l w hr).mono fun e w' ⟨v', h1, h2, h3⟩ => by
    rw [he] at h1 h2
    obtain ⟨a, c, rfl, hrd⟩ := win_out span_len h2 rfl n hn
    exact ⟨a, c, h1, hrd, h3⟩
theorem k_insert (s : Step) (ls : List Step) (ds : List Span) (n m : Nat) (er : Int) (hr : Rd Step.cells 4 w v l) (k' : Int) (he : insertP k l s = ((k', ls), ds, er)) (hn : ls.length = n) (hm : ds.length = m) :
    Calls Try.prog 22 #[.agg #[.int .i64 k, v], .agg #[.int .i64 s.at_, .int .i64 s.do_, .int .i64 s.key, .int .i64 s.val]] w fun e w' => ∃ a c a' c', e = .returned (.tuple #[.agg #[.int .i64 k', .slice a n c], .slice a' m c', .int .i64 er]) ∧ Rd Step.cells 4 w' (.slice a n c) ls ∧ Rd Span.cells 2 w' (.slice a' m c') ds ∧ Below w.heap.size w w' ∧ (∀ i, some i = (Value.slice a n c).ownBlock → w.heap.size ≤ i) ∧ ∀ i, some i = (Value.slice a' m c').ownBlock → w.heap.size ≤ i :=
  (rInsert_any k v l s w hr).mono fun e w' ⟨v1, v2, h1, h2, h3, h4⟩ => by
    rw [he] at h1 h2 h3
    have o1 := winC_ob h2
    have o2 := winC_ob h3
    obtain ⟨a, c, rfl, hrd⟩ := win_out step_len h2 rfl n hn
    obtain ⟨a', c', rfl, hrd'⟩ := win_out span_len h3 rfl m hm
    exact ⟨a, c, a', c', h1, hrd, hrd', h4, fun i hi => (o1 i hi).1, fun i hi => (o2 i hi).1⟩
theorem k_delete (t : Int) (ls : List Step) (ds : List Span) (n m : Nat) (er : Int) (hr : Rd Step.cells 4 w v l) (k' : Int) (he : deleteP k l t = ((k', ls), ds, er)) (hn : ls.length = n) (hm : ds.length = m) :
    Calls Try.prog 25 #[.agg #[.int .i64 k, v], .int .i64 t] w fun e w' => ∃ a c a' c', e = .returned (.tuple #[.agg #[.int .i64 k', .slice a n c], .slice a' m c', .int .i64 er]) ∧ Rd Step.cells 4 w' (.slice a n c) ls ∧ Rd Span.cells 2 w' (.slice a' m c') ds ∧ Below w.heap.size w w' :=
  (rDelete_any k v l t w hr).mono fun e w' ⟨v1, v2, h1, h2, h3, h4⟩ => by
    rw [he] at h1 h2 h3
    obtain ⟨a, c, rfl, hrd⟩ := win_out step_len h2 rfl n hn
    obtain ⟨a', c', rfl, hrd'⟩ := win_out span_len h3 rfl m hm
    exact ⟨a, c, a', c', h1, hrd, hrd', h4⟩
theorem k_slim (t : Int) (ls : List Step) (n : Nat) (hr : Rd Step.cells 4 w v l) (k' : Int) (he : slimP k l t = ((k', ls), 0)) (hn : ls.length = n) :
    Calls Try.prog 27 #[.agg #[.int .i64 k, v], .int .i64 t] w fun e w' => ∃ a c, e = .returned (.tuple #[.agg #[.int .i64 k', .slice a n c], .int .i64 0]) ∧ Rd Step.cells 4 w' (.slice a n c) ls ∧ Below w.heap.size w w' :=
  (rSlim_any k v l t w hr).mono fun e w' ⟨v1, h1, h2, h4⟩ => by
    rw [he] at h1 h2
    obtain ⟨a, c, rfl, hrd⟩ := win_out step_len h2 rfl n hn
    exact ⟨a, c, h1, hrd, h4⟩
theorem k_vals (ns : List Int) (ps : List Pair) (n : Nat) (hr : Rd cellI 1 w v ns) (hl : ns.length ≤ 1000) (he : (ns.map fun n => (⟨0, n⟩ : Pair)) = ps) (hn : ps.length = n) :
    Calls Try.prog 40 #[v] w fun e w' => ∃ a c, e = .returned (.slice a n c) ∧ Rd Pair.cells 2 w' (.slice a n c) ps ∧ Below w.heap.size w w' :=
  (vals_any v ns w hr hl).mono fun e w' ⟨v', h1, h2, h3⟩ => by
    rw [he] at h2
    obtain ⟨a, c, rfl, hrd⟩ := win_out pair_len h2 rfl n hn
    exact ⟨a, c, h1, hrd, h3⟩
theorem k_line (k : Int) (w : World) : Calls Try.prog 36 #[.int .i64 k] w fun e w' => ∃ a c, e = .returned (.agg #[.int .i64 k, .slice a 5 c]) ∧ Rd Step.cells 4 w' (.slice a 5 c) lineS ∧ Below w.heap.size w w' :=
  (line_any k w).mono fun e w' ⟨v', h1, h2, h3⟩ => by
    obtain ⟨a, c, rfl, hrd⟩ := win_out step_len h2 rfl 5 rfl
    exact ⟨a, c, h1, hrd, h3⟩
theorem k_samePairs {v1 v2 : Value} {xs : List Pair} (h1 : Rd Pair.cells 2 w v1 xs) (h2 : Rd Pair.cells 2 w v2 xs) : Calls Try.prog 31 #[v1, v2] w fun e w' => e = .returned (.bool true) ∧ Below w.heap.size w w' :=
  (samePairs_any v1 v2 xs xs w h1 h2).mono fun e w' ⟨h, hb⟩ => ⟨by rw [h]; simp, hb⟩
theorem k_sameSpans {v1 v2 : Value} {xs : List Span} (h1 : Rd Span.cells 2 w v1 xs) (h2 : Rd Span.cells 2 w v2 xs) : Calls Try.prog 19 #[v1, v2] w fun e w' => e = .returned (.bool true) ∧ Below w.heap.size w w' :=
  (sameSpans_any v1 v2 xs xs w h1 h2).mono fun e w' ⟨h, hb⟩ => ⟨by rw [h]; simp, hb⟩
theorem k_sameLives {v1 v2 : Value} {xs : List Life} (h1 : Rd Life.cells 4 w v1 xs) (h2 : Rd Life.cells 4 w v2 xs) : Calls Try.prog 18 #[v1, v2] w fun e w' => e = .returned (.bool true) ∧ Below w.heap.size w w' :=
  (sameLives_any v1 v2 xs xs w h1 h2).mono fun e w' ⟨h, hb⟩ => ⟨by rw [h]; simp, hb⟩
theorem k_same {k : Int} {v1 v2 : Value} {xs : List Step} (h1 : Rd Step.cells 4 w v1 xs) (h2 : Rd Step.cells 4 w v2 xs) : Calls Try.prog 24 #[.agg #[.int .i64 k, v1], .agg #[.int .i64 k, v2]] w fun e w' => e = .returned (.bool true) ∧ Below w.heap.size w w' :=
  (same_any k k v1 v2 xs xs w h1 h2).mono fun e w' ⟨h, hb⟩ => ⟨by rw [h]; simp, hb⟩
end
/-! ### the plain answers of the examples -/
def lineX : List Step := [⟨1, 1, 0, 5⟩, ⟨2, 1, 0, 8⟩, ⟨3, 1, 0, 6⟩, ⟨4, 2, 0, 0⟩, ⟨7, 2, 0, 0⟩, ⟨9, 2, 0, 0⟩]
def lineY : List Step := [⟨1, 1, 0, 5⟩, ⟨3, 1, 0, 6⟩, ⟨7, 2, 0, 0⟩, ⟨9, 2, 0, 0⟩]
def lineZ : List Step := [⟨1, 1, 0, 5⟩, ⟨7, 2, 0, 0⟩, ⟨9, 2, 0, 0⟩]
theorem e_at1 : atP 1 lineS 3 = ([⟨0, 5⟩, ⟨0, 6⟩], 0) := by decide
theorem e_at2 : atP 2 lineS 4 = ([⟨0, 6⟩], 0) := by decide
theorem e_lives : livesP 1 lineS = ([⟨1, 7, 0, 5⟩, ⟨3, 4, 0, 6⟩], 0) := by decide
theorem e_takes : takesP 1 lineS = ([⟨3, 4⟩, ⟨1, 7⟩, ⟨-1, 9⟩], 0) := by decide
theorem e_ins : insertP 2 lineS ⟨2, 1, 0, 8⟩ = ((2, lineX), [⟨2, 8⟩], 0) := by decide
theorem e_at3 : atP 2 lineX 4 = ([⟨0, 8⟩, ⟨0, 6⟩], 0) := by decide
theorem e_del : deleteP 1 lineS 4 = ((1, lineY), [⟨4, 8⟩], 0) := by decide
theorem e_slim : slimP 1 lineS 5 = ((1, lineZ), 0) := by decide
end Go.Proofs.Ytkoeplbkeboklaa
/- The laws' known: the chapter's examples. (Printed by known.py.) -/
set_option linter.unusedVariables false
set_option linter.unusedSimpArgs false
namespace Go.Proofs.Ytkoeplbkeboklaa
open Go.RowKit
set_option maxRecDepth 100000 in
set_option maxHeartbeats 8000000 in
theorem known_any (w : World) : Calls Try.prog 20 #[] w fun e w' => e = .returned (.bool true) ∧ Below w.heap.size w w' := by
  have HB := Lib.hid (Below.refl w.heap.size w)
  go_enter Try.func20, Try.ntmps20
  go_wp2_with fail
  refine (k_line 1 _).mono ?_
  rintro e w1 ⟨aS, cS, rfl, rs, hb⟩
  replace HB := Lib.hid (HB.out.trans (hb.mono HB.out.size))
  clear hb
  have RS := Lib.hid rs
  clear rs
  go_wp2_with fail
  refine (k_line 2 _).mono ?_
  rintro e w1 ⟨aQ, cQ, rfl, rq, hb⟩
  replace RS := Lib.hid (RS.out.below hb)
  replace HB := Lib.hid (HB.out.trans (hb.mono HB.out.size))
  clear hb
  have RQ := Lib.hid rq
  clear rq
  go_wp2_with fail
  refine named_box2 (G := fun W => Calls _ _ _ W _) _ _ _ _ _ fun w2 hb hz hx0 hx1 => ?_
  replace RS := Lib.hid (RS.out.below hb)
  replace RQ := Lib.hid (RQ.out.below hb)
  replace HB := Lib.hid (HB.out.trans (hb.mono HB.out.size))
  clear hb
  have c0 : w2.cell? ⟨w1.heap.size, 0, none⟩ = some (.int .i64 1) := cell_blk hx0 0
  have c1 : w2.cell? ⟨w1.heap.size, 1, none⟩ = some (.slice aS 5 cS) := cell_blk hx0 1
  have c2 : w2.cell? ⟨w1.heap.size + 1, 0, none⟩ = some (.int .i64 2) := cell_blk hx1 0
  have c3 : w2.cell? ⟨w1.heap.size + 1, 1, none⟩ = some (.slice aQ 5 cQ) := cell_blk hx1 1
  clear hx0 hx1 hz
  generalize w1.heap.size = X at *
  refine (k_at 3 _ 2 RS.out e_at1 rfl).mono ?_
  rintro e w1 ⟨aA, cA, rfl, ra, hb⟩
  replace c0 := below_cell hb c0
  replace c1 := below_cell hb c1
  replace c2 := below_cell hb c2
  replace c3 := below_cell hb c3
  replace RS := Lib.hid (RS.out.below hb)
  replace RQ := Lib.hid (RQ.out.below hb)
  replace HB := Lib.hid (HB.out.trans (hb.mono HB.out.size))
  clear hb
  have RA := Lib.hid ra
  clear ra
  go_wp2_with fail
  refine (k_at 4 _ 1 RQ.out e_at2 rfl).mono ?_
  rintro e w1 ⟨aB, cB, rfl, rb, hb⟩
  replace c0 := below_cell hb c0
  replace c1 := below_cell hb c1
  replace c2 := below_cell hb c2
  replace c3 := below_cell hb c3
  replace RS := Lib.hid (RS.out.below hb)
  replace RQ := Lib.hid (RQ.out.below hb)
  replace RA := Lib.hid (RA.out.below hb)
  replace HB := Lib.hid (HB.out.trans (hb.mono HB.out.size))
  clear hb
  have RB := Lib.hid rb
  clear rb
  go_wp2_with fail
  refine (k_lives _ 2 RS.out e_lives rfl).mono ?_
  rintro e w1 ⟨aL, cL, rfl, rl, hb⟩
  replace c0 := below_cell hb c0
  replace c1 := below_cell hb c1
  replace c2 := below_cell hb c2
  replace c3 := below_cell hb c3
  replace RS := Lib.hid (RS.out.below hb)
  replace RQ := Lib.hid (RQ.out.below hb)
  replace RA := Lib.hid (RA.out.below hb)
  replace RB := Lib.hid (RB.out.below hb)
  replace HB := Lib.hid (HB.out.trans (hb.mono HB.out.size))
  clear hb
  have RL := Lib.hid rl
  clear rl
  go_wp2_with fail
  refine (k_takes _ 3 RS.out e_takes rfl).mono ?_
  rintro e w1 ⟨aT, cT, rfl, rt, hb⟩
  replace c0 := below_cell hb c0
  replace c1 := below_cell hb c1
  replace c2 := below_cell hb c2
  replace c3 := below_cell hb c3
  replace RS := Lib.hid (RS.out.below hb)
  replace RQ := Lib.hid (RQ.out.below hb)
  replace RA := Lib.hid (RA.out.below hb)
  replace RB := Lib.hid (RB.out.below hb)
  replace RL := Lib.hid (RL.out.below hb)
  replace HB := Lib.hid (HB.out.trans (hb.mono HB.out.size))
  clear hb
  have RT := Lib.hid rt
  clear rt
  go_wp2_with fail
  refine named_box1 (G := fun W => Calls _ _ _ W _) _ _ _ fun w2 hb hz hx => ?_
  replace c0 := below_cell hb c0
  replace c1 := below_cell hb c1
  replace c2 := below_cell hb c2
  replace c3 := below_cell hb c3
  replace RS := Lib.hid (RS.out.below hb)
  replace RQ := Lib.hid (RQ.out.below hb)
  replace RA := Lib.hid (RA.out.below hb)
  replace RB := Lib.hid (RB.out.below hb)
  replace RL := Lib.hid (RL.out.below hb)
  replace RT := Lib.hid (RT.out.below hb)
  replace HB := Lib.hid (HB.out.trans (hb.mono HB.out.size))
  clear hb
  refine (k_vals [5, 6] _ 2 (rd_new int_len 3 [5, 6] _ 2 _ hx rfl rfl (by decide)) (by decide) rfl rfl).mono ?_
  rintro e w1 ⟨aV, cV, rfl, rv, hb⟩
  replace c0 := below_cell hb c0
  replace c1 := below_cell hb c1
  replace c2 := below_cell hb c2
  replace c3 := below_cell hb c3
  replace RS := Lib.hid (RS.out.below hb)
  replace RQ := Lib.hid (RQ.out.below hb)
  replace RA := Lib.hid (RA.out.below hb)
  replace RB := Lib.hid (RB.out.below hb)
  replace RL := Lib.hid (RL.out.below hb)
  replace RT := Lib.hid (RT.out.below hb)
  replace HB := Lib.hid (HB.out.trans (hb.mono HB.out.size))
  clear hb
  have RV := Lib.hid rv
  clear rv
  clear hx hz
  go_wp2_with fail
  refine (k_samePairs RA.out RV.out).mono ?_
  rintro e w1 ⟨rfl, hb⟩
  replace c0 := below_cell hb c0
  replace c1 := below_cell hb c1
  replace c2 := below_cell hb c2
  replace c3 := below_cell hb c3
  replace RS := Lib.hid (RS.out.below hb)
  replace RQ := Lib.hid (RQ.out.below hb)
  replace RA := Lib.hid (RA.out.below hb)
  replace RB := Lib.hid (RB.out.below hb)
  replace RL := Lib.hid (RL.out.below hb)
  replace RT := Lib.hid (RT.out.below hb)
  replace RV := Lib.hid (RV.out.below hb)
  replace HB := Lib.hid (HB.out.trans (hb.mono HB.out.size))
  clear hb
  clear RV
  go_wp2_with fail
  refine named_box1 (G := fun W => Calls _ _ _ W _) _ _ _ fun w2 hb hz hx => ?_
  replace c0 := below_cell hb c0
  replace c1 := below_cell hb c1
  replace c2 := below_cell hb c2
  replace c3 := below_cell hb c3
  replace RS := Lib.hid (RS.out.below hb)
  replace RQ := Lib.hid (RQ.out.below hb)
  replace RA := Lib.hid (RA.out.below hb)
  replace RB := Lib.hid (RB.out.below hb)
  replace RL := Lib.hid (RL.out.below hb)
  replace RT := Lib.hid (RT.out.below hb)
  replace HB := Lib.hid (HB.out.trans (hb.mono HB.out.size))
  clear hb
  refine (k_vals [6] _ 1 (rd_new int_len 3 [6] _ 1 _ hx rfl rfl (by decide)) (by decide) rfl rfl).mono ?_
  rintro e w1 ⟨aV, cV, rfl, rv, hb⟩
  replace c0 := below_cell hb c0
  replace c1 := below_cell hb c1
  replace c2 := below_cell hb c2
  replace c3 := below_cell hb c3
  replace RS := Lib.hid (RS.out.below hb)
  replace RQ := Lib.hid (RQ.out.below hb)
  replace RA := Lib.hid (RA.out.below hb)
  replace RB := Lib.hid (RB.out.below hb)
  replace RL := Lib.hid (RL.out.below hb)
  replace RT := Lib.hid (RT.out.below hb)
  replace HB := Lib.hid (HB.out.trans (hb.mono HB.out.size))
  clear hb
  have RV := Lib.hid rv
  clear rv
  clear hx hz
  go_wp2_with fail
  refine (k_samePairs RB.out RV.out).mono ?_
  rintro e w1 ⟨rfl, hb⟩
  replace c0 := below_cell hb c0
  replace c1 := below_cell hb c1
  replace c2 := below_cell hb c2
  replace c3 := below_cell hb c3
  replace RS := Lib.hid (RS.out.below hb)
  replace RQ := Lib.hid (RQ.out.below hb)
  replace RA := Lib.hid (RA.out.below hb)
  replace RB := Lib.hid (RB.out.below hb)
  replace RL := Lib.hid (RL.out.below hb)
  replace RT := Lib.hid (RT.out.below hb)
  replace RV := Lib.hid (RV.out.below hb)
  replace HB := Lib.hid (HB.out.trans (hb.mono HB.out.size))
  clear hb
  clear RV
  clear RA RB
  go_wp2_with fail
  refine named_box1 (G := fun W => Calls _ _ _ W _) _ _ _ fun w2 hb hz hx => ?_
  replace c0 := below_cell hb c0
  replace c1 := below_cell hb c1
  replace c2 := below_cell hb c2
  replace c3 := below_cell hb c3
  replace RS := Lib.hid (RS.out.below hb)
  replace RQ := Lib.hid (RQ.out.below hb)
  replace RL := Lib.hid (RL.out.below hb)
  replace RT := Lib.hid (RT.out.below hb)
  replace HB := Lib.hid (HB.out.trans (hb.mono HB.out.size))
  clear hb
  refine (k_sameSpans RT.out (rd_new span_len 58 [⟨3, 4⟩, ⟨1, 7⟩, ⟨-1, 9⟩] _ 3 _ hx rfl rfl (by decide))).mono ?_
  rintro e w1 ⟨rfl, hb⟩
  replace c0 := below_cell hb c0
  replace c1 := below_cell hb c1
  replace c2 := below_cell hb c2
  replace c3 := below_cell hb c3
  replace RS := Lib.hid (RS.out.below hb)
  replace RQ := Lib.hid (RQ.out.below hb)
  replace RL := Lib.hid (RL.out.below hb)
  replace RT := Lib.hid (RT.out.below hb)
  replace HB := Lib.hid (HB.out.trans (hb.mono HB.out.size))
  clear hb
  clear hx hz RT
  go_wp2_with fail
  refine named_box1 (G := fun W => Calls _ _ _ W _) _ _ _ fun w2 hb hz hx => ?_
  replace c0 := below_cell hb c0
  replace c1 := below_cell hb c1
  replace c2 := below_cell hb c2
  replace c3 := below_cell hb c3
  replace RS := Lib.hid (RS.out.below hb)
  replace RQ := Lib.hid (RQ.out.below hb)
  replace RL := Lib.hid (RL.out.below hb)
  replace HB := Lib.hid (HB.out.trans (hb.mono HB.out.size))
  clear hb
  refine (k_sameLives RL.out (rd_new life_len 63 [⟨1, 7, 0, 5⟩, ⟨3, 4, 0, 6⟩] _ 2 _ hx rfl rfl (by decide))).mono ?_
  rintro e w1 ⟨rfl, hb⟩
  replace c0 := below_cell hb c0
  replace c1 := below_cell hb c1
  replace c2 := below_cell hb c2
  replace c3 := below_cell hb c3
  replace RS := Lib.hid (RS.out.below hb)
  replace RQ := Lib.hid (RQ.out.below hb)
  replace RL := Lib.hid (RL.out.below hb)
  replace HB := Lib.hid (HB.out.trans (hb.mono HB.out.size))
  clear hb
  clear hx hz RL
  go_upto_region 10 with (fail)
  go_cut [4, 11, 12] (fun e q d W => ∃ (Y : Nat) (a2 a3 : Option Addr) (c2 c3 : Nat), e = .int .i64 0 ∧ q = .pointer (some ⟨Y, 0, none⟩) ∧ d = .slice a3 1 c3 ∧ Below w1.heap.size w1 W ∧ W.cell? ⟨Y, 0, none⟩ = some (.int .i64 2) ∧ W.cell? ⟨Y, 1, none⟩ = some (.slice a2 6 c2) ∧ Rd Step.cells 4 W (.slice a2 6 c2) lineX ∧ Rd Span.cells 2 W (.slice a3 1 c3) [⟨2, 8⟩])
  case first =>
    have EI := Lib.hid (enters_of Try.func37 (by kernel_rfl) rfl)
    have EJ := Lib.hid (enters_of Try.func22 (by kernel_rfl) rfl)
    refine wp_region_noPanic ?_
    refine wp_region_held_drew (S := fun W => W.cell? ⟨X + 1, 0, none⟩ = some (.int .i64 2) ∧ W.cell? ⟨X + 1, 1, none⟩ = some (.slice aQ 5 cQ)) (by kernel_rfl) ⟨c2, c3⟩ (fun hHeld => ?_)
    set_option maxRecDepth 10000 in
    refine wpAnyH_take (i := 0) (v := ?_) rfl (by kernel_rfl) (by kernel_rfl) (by kernel_rfl) (fun _ _ _ h => h) (Or.inl ⟨by rfl, ?_⟩) (by assumption) ?_
    rotate_left
    · intro w hSw; (try dsimp only at hSw); go_simp; (try with_reducible rfl)
    try simp only [Act.put, List.getElem_toArray, List.getElem_cons_zero, List.getElem_cons_succ, List.setIfInBounds_toArray, List.set_cons_zero, List.set_cons_succ]

    set_option maxRecDepth 10000 in
    refine wpAnyH_ready (rs := [1, 7]) (by kernel_rfl) (by simp) ?_

    refine AllReadyH.cons rfl (fun K hK => ?_) ?_
    refine step_call (by rfl) 37 _ _ (by rfl) (EI.out) _ (by rfl) (in_any 2 8 _) ?_
    rintro _ wI ⟨rfl, hbI⟩
    refine ⟨_, rfl, ?_⟩
    have hI : Below w1.heap.size w1 wI := (Below.refl _ _).drew.trans hbI
    have p2 := below_cell hI c2
    have p3 := below_cell hI c3
    have hzI := hI.size
    refine hK.out _ _ ⟨p2, p3⟩ (fun hHeld => ?_)
    clear hK K
    try simp only [Act.put, List.setIfInBounds_toArray, List.set_cons_zero, List.set_cons_succ]

    · skip
      set_option maxRecDepth 10000 in
      refine wpAnyH_ready (rs := [2, 7]) (by kernel_rfl) (by simp) ?_

      refine AllReadyH.cons rfl (fun K hK => ?_) ?_
      refine step_call (by rfl) 22 _ _ (by rfl) (EJ.out) _ (by rfl) (k_insert ⟨2, 1, 0, 8⟩ lineX [⟨2, 8⟩] 6 1 0 (RQ.out.below hI) 2 e_ins rfl rfl) ?_
      rintro _ wJ ⟨a2, b2, a3, b3, rfl, rx, rd, hbJ, ox, od⟩
      refine ⟨_, rfl, ?_⟩
      have hIJ : Below wI.heap.size wI wJ := hbJ
      have hJ : Below w1.heap.size w1 wJ := hI.trans (hIJ.mono hI.size)
      have q2 := below_cell hJ c2
      have q3 := below_cell hJ c3
      have RX := Lib.hid rx
      have RD := Lib.hid rd
      clear rx rd
      have OX := Lib.hid (And.intro ox od)
      clear ox od
      have hzJ := hIJ.size
      refine hK.out _ _ ⟨q2, q3⟩ (fun hHeld => ?_)
      clear hK K
      try simp only [Act.put, List.setIfInBounds_toArray, List.set_cons_zero, List.set_cons_succ]
      set_option maxRecDepth 10000 in
      refine wpAnyH_take (i := 3) (v := ?_) rfl (by kernel_rfl) (by kernel_rfl) (by kernel_rfl) (fun _ _ _ h => h) (Or.inl ⟨by rfl, ?_⟩) (by assumption) ?_
      rotate_left
      · intro w hSw; (try dsimp only at hSw); go_simp; (try with_reducible rfl)
      try simp only [Act.put, List.getElem_toArray, List.getElem_cons_zero, List.getElem_cons_succ, List.setIfInBounds_toArray, List.set_cons_zero, List.set_cons_succ]

      set_option maxRecDepth 10000 in
      refine wpAnyH_take (i := 4) (v := ?_) rfl (by kernel_rfl) (by kernel_rfl) (by kernel_rfl) (fun _ _ _ h => h) (Or.inl ⟨by rfl, ?_⟩) (by assumption) ?_
      rotate_left
      · intro w hSw; (try dsimp only at hSw); go_simp; (try with_reducible rfl)
      try simp only [Act.put, List.getElem_toArray, List.getElem_cons_zero, List.getElem_cons_succ, List.setIfInBounds_toArray, List.set_cons_zero, List.set_cons_succ]

      set_option maxRecDepth 10000 in
      refine wpAnyH_take (i := 5) (v := ?_) rfl (by kernel_rfl) (by kernel_rfl) (by kernel_rfl) (fun _ _ _ h => h) (Or.inl ⟨by rfl, ?_⟩) (by assumption) ?_
      rotate_left
      · intro w hSw; (try dsimp only at hSw); go_simp; (try with_reducible rfl)
      try simp only [Act.put, List.getElem_toArray, List.getElem_cons_zero, List.getElem_cons_succ, List.setIfInBounds_toArray, List.set_cons_zero, List.set_cons_succ]

      set_option maxRecDepth 10000 in
      refine wpAnyH_take (i := 6) (v := ?_) rfl (by kernel_rfl) (by kernel_rfl) (by kernel_rfl) (fun _ _ _ h => h) (Or.inl ⟨by rfl, ?_⟩) (by assumption) ?_
      rotate_left
      · intro w hSw; (try dsimp only at hSw); go_simp; (try with_reducible rfl)
      try simp only [Act.put, List.getElem_toArray, List.getElem_cons_zero, List.getElem_cons_succ, List.setIfInBounds_toArray, List.set_cons_zero, List.set_cons_succ]


      · skip
        set_option maxRecDepth 10000 in
        refine wpAnyH_ready (rs := [7]) (by kernel_rfl) (by simp) ?_

        refine AllReadyH.cons rfl (fun K hK => ?_) ?_
        go_simp
        refine hK.out _ _ ⟨below_cell ((Below.refl _ _).alloc (Nat.le_refl _) _) q2, below_cell ((Below.refl _ _).alloc (Nat.le_refl _) _) q3⟩ (fun hHeld => ?_)
        clear hK K
        try simp only [Act.put, List.setIfInBounds_toArray, List.set_cons_zero, List.set_cons_succ]
        · skip
          set_option maxRecDepth 10000 in
          refine wpAnyH_ready (rs := [8]) (by kernel_rfl) (by simp) ?_

          refine AllReadyH.cons rfl (fun K hK => ?_) ?_
          · go_simp
            refine hK.out _ _ ⟨below_cell ((Below.refl _ _).alloc (Nat.le_refl _) _) q2, below_cell ((Below.refl _ _).alloc (Nat.le_refl _) _) q3⟩ (fun hHeld => ?_)
            clear hK K
            try simp only [Act.put, List.setIfInBounds_toArray, List.set_cons_zero, List.set_cons_succ]
            set_option maxRecDepth 10000 in
            refine wpAnyH_take (i := 9) (v := ?_) rfl (by kernel_rfl) (by kernel_rfl) (by kernel_rfl) (fun _ _ _ h => h) (Or.inl ⟨by rfl, ?_⟩) (by assumption) ?_
            rotate_left
            · intro w hSw; (try dsimp only at hSw); go_simp; (try with_reducible rfl)
            try simp only [Act.put, List.getElem_toArray, List.getElem_cons_zero, List.getElem_cons_succ, List.setIfInBounds_toArray, List.set_cons_zero, List.set_cons_succ]

            set_option maxRecDepth 10000 in
            refine wpAnyH_take (i := 10) (v := ?_) rfl (by kernel_rfl) (by kernel_rfl) (by kernel_rfl) (fun _ _ _ h => h) (Or.inl ⟨by rfl, ?_⟩) (by assumption) ?_
            rotate_left
            · intro w hSw; (try dsimp only at hSw); go_simp; (try with_reducible rfl)
            try simp only [Act.put, List.getElem_toArray, List.getElem_cons_zero, List.getElem_cons_succ, List.setIfInBounds_toArray, List.set_cons_zero, List.set_cons_succ]

            refine wpAnyH_done (by kernel_rfl) ?_ _
            refine NoPanic.normal ?_
            go_wp2_with fail
            go_meet
            exact ⟨wJ.heap.size, a2, a3, b2, b3, rfl, rfl, rfl, hJ.trans (((Below.refl _ _).alloc (Nat.le_refl _) _).mono hJ.size), box_at wJ _ _ 0, box_at wJ _ _ 1, RX.out.below ((Below.refl _ _).alloc (Nat.le_refl _) _), RD.out.below ((Below.refl _ _).alloc (Nat.le_refl _) _)⟩
          exact AllReadyH.nil
        exact AllReadyH.nil
      · skip
        refine AllReadyH.cons rfl (fun K hK => ?_) ?_
        go_simp
        refine hK.out _ _ ⟨below_cell ((Below.refl _ _).alloc (Nat.le_refl _) _) p2, below_cell ((Below.refl _ _).alloc (Nat.le_refl _) _) p3⟩ (fun hHeld => ?_)
        clear hK K
        try simp only [Act.put, List.setIfInBounds_toArray, List.set_cons_zero, List.set_cons_succ]
        · skip
          set_option maxRecDepth 10000 in
          refine wpAnyH_ready (rs := [2]) (by kernel_rfl) (by simp) ?_

          refine AllReadyH.cons rfl (fun K hK => ?_) ?_
          refine step_call (by rfl) 22 _ _ (by rfl) (EJ.out) _ (by rfl) (k_insert ⟨2, 1, 0, 8⟩ lineX [⟨2, 8⟩] 6 1 0 ((RQ.out.below hI).below ((Below.refl _ _).alloc (Nat.le_refl _) _)) 2 e_ins rfl rfl) ?_
          rintro _ wJ ⟨a2, b2, a3, b3, rfl, rx, rd, hbJ, ox, od⟩
          refine ⟨_, rfl, ?_⟩
          have hIJ : Below wI.heap.size wI wJ := ((Below.refl _ _).alloc (Nat.le_refl _) _).trans (hbJ.mono (by simp))
          have hJ : Below w1.heap.size w1 wJ := hI.trans (hIJ.mono hI.size)
          have q2 := below_cell hJ c2
          have q3 := below_cell hJ c3
          have RX := Lib.hid rx
          have RD := Lib.hid rd
          clear rx rd
          have OX := Lib.hid (And.intro ox od)
          clear ox od
          have hzJ := hIJ.size
          refine hK.out _ _ ⟨q2, q3⟩ (fun hHeld => ?_)
          clear hK K
          try simp only [Act.put, List.setIfInBounds_toArray, List.set_cons_zero, List.set_cons_succ]
          set_option maxRecDepth 10000 in
          refine wpAnyH_take (i := 3) (v := ?_) rfl (by kernel_rfl) (by kernel_rfl) (by kernel_rfl) (fun _ _ _ h => h) (Or.inl ⟨by rfl, ?_⟩) (by assumption) ?_
          rotate_left
          · intro w hSw; (try dsimp only at hSw); go_simp; (try with_reducible rfl)
          try simp only [Act.put, List.getElem_toArray, List.getElem_cons_zero, List.getElem_cons_succ, List.setIfInBounds_toArray, List.set_cons_zero, List.set_cons_succ]

          set_option maxRecDepth 10000 in
          refine wpAnyH_take (i := 4) (v := ?_) rfl (by kernel_rfl) (by kernel_rfl) (by kernel_rfl) (fun _ _ _ h => h) (Or.inl ⟨by rfl, ?_⟩) (by assumption) ?_
          rotate_left
          · intro w hSw; (try dsimp only at hSw); go_simp; (try with_reducible rfl)
          try simp only [Act.put, List.getElem_toArray, List.getElem_cons_zero, List.getElem_cons_succ, List.setIfInBounds_toArray, List.set_cons_zero, List.set_cons_succ]

          set_option maxRecDepth 10000 in
          refine wpAnyH_take (i := 5) (v := ?_) rfl (by kernel_rfl) (by kernel_rfl) (by kernel_rfl) (fun _ _ _ h => h) (Or.inl ⟨by rfl, ?_⟩) (by assumption) ?_
          rotate_left
          · intro w hSw; (try dsimp only at hSw); go_simp; (try with_reducible rfl)
          try simp only [Act.put, List.getElem_toArray, List.getElem_cons_zero, List.getElem_cons_succ, List.setIfInBounds_toArray, List.set_cons_zero, List.set_cons_succ]

          set_option maxRecDepth 10000 in
          refine wpAnyH_take (i := 6) (v := ?_) rfl (by kernel_rfl) (by kernel_rfl) (by kernel_rfl) (fun _ _ _ h => h) (Or.inl ⟨by rfl, ?_⟩) (by assumption) ?_
          rotate_left
          · intro w hSw; (try dsimp only at hSw); go_simp; (try with_reducible rfl)
          try simp only [Act.put, List.getElem_toArray, List.getElem_cons_zero, List.getElem_cons_succ, List.setIfInBounds_toArray, List.set_cons_zero, List.set_cons_succ]


          · have yb := (hbJ.block wI.heap.size (by simp)).trans (heap_alloc_new wI (.cells #[.int .i64 0, .slice none 0 0] 25))
            have hXl := World.block_lt_of_cell? w1 _ c2
            have y0 := cell_blk yb 0
            have y1 := cell_blk yb 1
            have k0 := free_blk yb 0
            have k1 := free_blk yb 1
            set_option maxRecDepth 10000 in
            refine wpAnyH_ready (rs := [8]) (by kernel_rfl) (by simp) ?_

            refine AllReadyH.cons rfl (fun K hK => ?_) ?_
            · go_simp
              refine hK.out _ _ ⟨fr_cell (stored2 wJ _ _ _) q2 (fun h => by have h2 : X + 1 = _ := h; dsimp only at hXl; omega), fr_cell (stored2 wJ _ _ _) q3 (fun h => by have h2 : X + 1 = _ := h; dsimp only at hXl; omega)⟩ (fun hHeld => ?_)
              clear hK K y0 y1 k0 k1
              try simp only [Act.put, List.setIfInBounds_toArray, List.set_cons_zero, List.set_cons_succ]
              set_option maxRecDepth 10000 in
              refine wpAnyH_take (i := 9) (v := ?_) rfl (by kernel_rfl) (by kernel_rfl) (by kernel_rfl) (fun _ _ _ h => h) (Or.inl ⟨by rfl, ?_⟩) (by assumption) ?_
              rotate_left
              · intro w hSw; (try dsimp only at hSw); go_simp; (try with_reducible rfl)
              try simp only [Act.put, List.getElem_toArray, List.getElem_cons_zero, List.getElem_cons_succ, List.setIfInBounds_toArray, List.set_cons_zero, List.set_cons_succ]

              set_option maxRecDepth 10000 in
              refine wpAnyH_take (i := 10) (v := ?_) rfl (by kernel_rfl) (by kernel_rfl) (by kernel_rfl) (fun _ _ _ h => h) (Or.inl ⟨by rfl, ?_⟩) (by assumption) ?_
              rotate_left
              · intro w hSw; (try dsimp only at hSw); go_simp; (try with_reducible rfl)
              try simp only [Act.put, List.getElem_toArray, List.getElem_cons_zero, List.getElem_cons_succ, List.setIfInBounds_toArray, List.set_cons_zero, List.set_cons_succ]

              refine wpAnyH_done (by kernel_rfl) ?_ _
              refine NoPanic.normal ?_
              go_wp2_with fail
              go_meet
              exact ⟨wI.heap.size, a2, a3, b2, b3, rfl, rfl, rfl, hJ.trans (below_of_fr (stored2 wJ _ _ _) hJ.size fun i hi => by have h2 : i = _ := hi; omega), cell_blk (stored2_blk yb _ _) 0, cell_blk (stored2_blk yb _ _) 1, rd_move RX.out (stored2 wJ _ _ _) (fun i hi h => by have h2 : i = _ := h; have := OX.out.1 i hi; (try simp at this); omega), rd_move RD.out (stored2 wJ _ _ _) (fun i hi h => by have h2 : i = _ := h; have := OX.out.2 i hi; (try simp at this); omega)⟩
            exact AllReadyH.nil

          exact AllReadyH.nil
        exact AllReadyH.nil
    · skip
      refine AllReadyH.cons rfl (fun K hK => ?_) ?_
      go_simp
      refine hK.out _ _ ⟨below_cell ((Below.refl _ _).drew.alloc (Nat.le_refl _) _) c2, below_cell ((Below.refl _ _).drew.alloc (Nat.le_refl _) _) c3⟩ (fun hHeld => ?_)
      clear hK K
      try simp only [Act.put, List.setIfInBounds_toArray, List.set_cons_zero, List.set_cons_succ]
      · skip
        set_option maxRecDepth 10000 in
        refine wpAnyH_ready (rs := [1]) (by kernel_rfl) (by simp) ?_

        refine AllReadyH.cons rfl (fun K hK => ?_) ?_
        refine step_call (by rfl) 37 _ _ (by rfl) (EI.out) _ (by rfl) (in_any 2 8 _) ?_
        rintro _ wI ⟨rfl, hbI⟩
        refine ⟨_, rfl, ?_⟩
        have hI : Below w1.heap.size w1 wI := ((Below.refl _ _).drew.alloc (Nat.le_refl _) _).trans (hbI.mono (by simp))
        have p2 := below_cell hI c2
        have p3 := below_cell hI c3
        have hzI := hI.size
        refine hK.out _ _ ⟨p2, p3⟩ (fun hHeld => ?_)
        clear hK K
        try simp only [Act.put, List.setIfInBounds_toArray, List.set_cons_zero, List.set_cons_succ]

        · have y := (hbI.block w1.heap.size (by simp)).trans (heap_alloc_new w1.drew (.cells #[.int .i64 0, .slice none 0 0] 25))
          have hy := (Array.getElem?_eq_some_iff.1 y).1
          set_option maxRecDepth 10000 in
          refine wpAnyH_ready (rs := [2]) (by kernel_rfl) (by simp) ?_

          refine AllReadyH.cons rfl (fun K hK => ?_) ?_
          refine step_call (by rfl) 22 _ _ (by rfl) (EJ.out) _ (by rfl) (k_insert ⟨2, 1, 0, 8⟩ lineX [⟨2, 8⟩] 6 1 0 (RQ.out.below hI) 2 e_ins rfl rfl) ?_
          rintro _ wJ ⟨a2, b2, a3, b3, rfl, rx, rd, hbJ, ox, od⟩
          refine ⟨_, rfl, ?_⟩
          have hIJ : Below wI.heap.size wI wJ := hbJ
          have hJ : Below w1.heap.size w1 wJ := hI.trans (hIJ.mono hI.size)
          have q2 := below_cell hJ c2
          have q3 := below_cell hJ c3
          have RX := Lib.hid rx
          have RD := Lib.hid rd
          clear rx rd
          have OX := Lib.hid (And.intro ox od)
          clear ox od
          have hzJ := hIJ.size
          refine hK.out _ _ ⟨q2, q3⟩ (fun hHeld => ?_)
          clear hK K
          try simp only [Act.put, List.setIfInBounds_toArray, List.set_cons_zero, List.set_cons_succ]
          set_option maxRecDepth 10000 in
          refine wpAnyH_take (i := 3) (v := ?_) rfl (by kernel_rfl) (by kernel_rfl) (by kernel_rfl) (fun _ _ _ h => h) (Or.inl ⟨by rfl, ?_⟩) (by assumption) ?_
          rotate_left
          · intro w hSw; (try dsimp only at hSw); go_simp; (try with_reducible rfl)
          try simp only [Act.put, List.getElem_toArray, List.getElem_cons_zero, List.getElem_cons_succ, List.setIfInBounds_toArray, List.set_cons_zero, List.set_cons_succ]

          set_option maxRecDepth 10000 in
          refine wpAnyH_take (i := 4) (v := ?_) rfl (by kernel_rfl) (by kernel_rfl) (by kernel_rfl) (fun _ _ _ h => h) (Or.inl ⟨by rfl, ?_⟩) (by assumption) ?_
          rotate_left
          · intro w hSw; (try dsimp only at hSw); go_simp; (try with_reducible rfl)
          try simp only [Act.put, List.getElem_toArray, List.getElem_cons_zero, List.getElem_cons_succ, List.setIfInBounds_toArray, List.set_cons_zero, List.set_cons_succ]

          set_option maxRecDepth 10000 in
          refine wpAnyH_take (i := 5) (v := ?_) rfl (by kernel_rfl) (by kernel_rfl) (by kernel_rfl) (fun _ _ _ h => h) (Or.inl ⟨by rfl, ?_⟩) (by assumption) ?_
          rotate_left
          · intro w hSw; (try dsimp only at hSw); go_simp; (try with_reducible rfl)
          try simp only [Act.put, List.getElem_toArray, List.getElem_cons_zero, List.getElem_cons_succ, List.setIfInBounds_toArray, List.set_cons_zero, List.set_cons_succ]

          set_option maxRecDepth 10000 in
          refine wpAnyH_take (i := 6) (v := ?_) rfl (by kernel_rfl) (by kernel_rfl) (by kernel_rfl) (fun _ _ _ h => h) (Or.inl ⟨by rfl, ?_⟩) (by assumption) ?_
          rotate_left
          · intro w hSw; (try dsimp only at hSw); go_simp; (try with_reducible rfl)
          try simp only [Act.put, List.getElem_toArray, List.getElem_cons_zero, List.getElem_cons_succ, List.setIfInBounds_toArray, List.set_cons_zero, List.set_cons_succ]


          · have yb := (hbJ.block w1.heap.size hy).trans y
            have hXl := World.block_lt_of_cell? w1 _ c2
            have y0 := cell_blk yb 0
            have y1 := cell_blk yb 1
            have k0 := free_blk yb 0
            have k1 := free_blk yb 1
            set_option maxRecDepth 10000 in
            refine wpAnyH_ready (rs := [8]) (by kernel_rfl) (by simp) ?_

            refine AllReadyH.cons rfl (fun K hK => ?_) ?_
            · go_simp
              refine hK.out _ _ ⟨fr_cell (stored2 wJ _ _ _) q2 (fun h => by have h2 : X + 1 = _ := h; dsimp only at hXl; omega), fr_cell (stored2 wJ _ _ _) q3 (fun h => by have h2 : X + 1 = _ := h; dsimp only at hXl; omega)⟩ (fun hHeld => ?_)
              clear hK K y0 y1 k0 k1
              try simp only [Act.put, List.setIfInBounds_toArray, List.set_cons_zero, List.set_cons_succ]
              set_option maxRecDepth 10000 in
              refine wpAnyH_take (i := 9) (v := ?_) rfl (by kernel_rfl) (by kernel_rfl) (by kernel_rfl) (fun _ _ _ h => h) (Or.inl ⟨by rfl, ?_⟩) (by assumption) ?_
              rotate_left
              · intro w hSw; (try dsimp only at hSw); go_simp; (try with_reducible rfl)
              try simp only [Act.put, List.getElem_toArray, List.getElem_cons_zero, List.getElem_cons_succ, List.setIfInBounds_toArray, List.set_cons_zero, List.set_cons_succ]

              set_option maxRecDepth 10000 in
              refine wpAnyH_take (i := 10) (v := ?_) rfl (by kernel_rfl) (by kernel_rfl) (by kernel_rfl) (fun _ _ _ h => h) (Or.inl ⟨by rfl, ?_⟩) (by assumption) ?_
              rotate_left
              · intro w hSw; (try dsimp only at hSw); go_simp; (try with_reducible rfl)
              try simp only [Act.put, List.getElem_toArray, List.getElem_cons_zero, List.getElem_cons_succ, List.setIfInBounds_toArray, List.set_cons_zero, List.set_cons_succ]

              refine wpAnyH_done (by kernel_rfl) ?_ _
              refine NoPanic.normal ?_
              go_wp2_with fail
              go_meet
              exact ⟨w1.heap.size, a2, a3, b2, b3, rfl, rfl, rfl, hJ.trans (below_of_fr (stored2 wJ _ _ _) hJ.size fun i hi => by have h2 : i = _ := hi; omega), cell_blk (stored2_blk yb _ _) 0, cell_blk (stored2_blk yb _ _) 1, rd_move RX.out (stored2 wJ _ _ _) (fun i hi h => by have h2 : i = _ := h; have := OX.out.1 i hi; (try simp at this); omega), rd_move RD.out (stored2 wJ _ _ _) (fun i hi h => by have h2 : i = _ := h; have := OX.out.2 i hi; (try simp at this); omega)⟩
            exact AllReadyH.nil

          exact AllReadyH.nil
        exact AllReadyH.nil
      exact AllReadyH.nil
  case rest =>
    obtain ⟨Y, a2, a3, b2, b3, rfl, rfl, rfl, hb, y0, y1, rx, rd⟩ := hcut
    have HKI := Lib.hid rx
    have HKJ := Lib.hid rd
    replace c0 := below_cell hb c0
    replace c1 := below_cell hb c1
    replace c2 := below_cell hb c2
    replace c3 := below_cell hb c3
    replace RS := Lib.hid (RS.out.below hb)
    replace RQ := Lib.hid (RQ.out.below hb)
    replace HB := Lib.hid (HB.out.trans (hb.mono HB.out.size))
    clear hb
    have RX := Lib.hid HKI.out
    have RD := Lib.hid HKJ.out
    clear rx rd HKI HKJ RQ c2 c3
    go_wp2_with fail
    refine (k_at 4 _ 2 RX.out e_at3 rfl).mono ?_
    rintro e w1 ⟨aC, cC, rfl, rc, hb⟩
    replace c0 := below_cell hb c0
    replace c1 := below_cell hb c1
    replace y0 := below_cell hb y0
    replace y1 := below_cell hb y1
    replace RS := Lib.hid (RS.out.below hb)
    replace RX := Lib.hid (RX.out.below hb)
    replace RD := Lib.hid (RD.out.below hb)
    replace HB := Lib.hid (HB.out.trans (hb.mono HB.out.size))
    clear hb
    have RC := Lib.hid rc
    clear rc
    clear RX y0 y1
    go_wp2_with fail
    refine (k_delete 4 lineY [⟨4, 8⟩] 4 1 0 RS.out 1 e_del rfl rfl).mono ?_
    rintro e w1 ⟨aY, cY, aR, cR, rfl, ry, rr, hb⟩
    replace c0 := below_cell hb c0
    replace c1 := below_cell hb c1
    replace RS := Lib.hid (RS.out.below hb)
    replace RD := Lib.hid (RD.out.below hb)
    replace RC := Lib.hid (RC.out.below hb)
    replace HB := Lib.hid (HB.out.trans (hb.mono HB.out.size))
    clear hb
    have RR := Lib.hid rr
    clear rr
    clear ry
    have e0 := fun o => below_cell ((Below.refl _ _).alloc (Nat.le_refl w1.heap.size) o) c0
    have e1 := fun o => below_cell ((Below.refl _ _).alloc (Nat.le_refl w1.heap.size) o) c1
    go_wp2_with fail
    clear e0 e1
    refine named_box1 (G := fun W => Calls _ _ _ W _) _ _ _ fun w2 hb hz hx => ?_
    replace c0 := below_cell hb c0
    replace c1 := below_cell hb c1
    replace RS := Lib.hid (RS.out.below hb)
    replace RD := Lib.hid (RD.out.below hb)
    replace RC := Lib.hid (RC.out.below hb)
    replace RR := Lib.hid (RR.out.below hb)
    replace HB := Lib.hid (HB.out.trans (hb.mono HB.out.size))
    clear hb
    have s1 : w2.cell? ⟨w1.heap.size, 1, none⟩ = some (.slice aY 4 cY) := cell_blk hx 1
    clear hx hz
    generalize w1.heap.size = Y4 at *
    refine (k_slim 5 lineZ 3 RS.out 1 e_slim rfl).mono ?_
    rintro e w1 ⟨aZ, cZ, rfl, rz, hb⟩
    replace c0 := below_cell hb c0
    replace c1 := below_cell hb c1
    replace s1 := below_cell hb s1
    replace RS := Lib.hid (RS.out.below hb)
    replace RD := Lib.hid (RD.out.below hb)
    replace RC := Lib.hid (RC.out.below hb)
    replace RR := Lib.hid (RR.out.below hb)
    replace HB := Lib.hid (HB.out.trans (hb.mono HB.out.size))
    clear hb
    have RZ := Lib.hid rz
    clear rz
    clear RS c0 c1
    go_wp2_with fail
    refine named_box3 (G := fun W => Code.wp _ _ _ _ W) _ _ _ _ _ _ _ fun w2 hb hz hx0 hx1 hx2 => ?_
    replace s1 := below_cell hb s1
    replace RD := Lib.hid (RD.out.below hb)
    replace RC := Lib.hid (RC.out.below hb)
    replace RR := Lib.hid (RR.out.below hb)
    replace RZ := Lib.hid (RZ.out.below hb)
    replace HB := Lib.hid (HB.out.trans (hb.mono HB.out.size))
    clear hb
    have z0 : w2.cell? ⟨w1.heap.size, 0, none⟩ = some (.int .i64 1) := cell_blk hx0 0
    have z1 : w2.cell? ⟨w1.heap.size, 1, none⟩ = some (.slice aZ 3 cZ) := cell_blk hx0 1
    have RTW := Lib.hid (rd_new span_len 58 [⟨2, 8⟩] _ 1 _ hx1 rfl rfl (by decide))
    have RFO := Lib.hid (rd_new span_len 58 [⟨4, 8⟩] _ 1 _ hx2 rfl rfl (by decide))
    clear hx0 hx1 hx2 hz
    generalize w1.heap.size = Z at *
    have hb : Below w2.heap.size w2 w2.drew := (Below.refl _ _).drew
    replace s1 := below_cell hb s1
    replace z0 := below_cell hb z0
    replace z1 := below_cell hb z1
    replace RD := Lib.hid (RD.out.below hb)
    replace RC := Lib.hid (RC.out.below hb)
    replace RR := Lib.hid (RR.out.below hb)
    replace RZ := Lib.hid (RZ.out.below hb)
    replace RTW := Lib.hid (RTW.out.below hb)
    replace RFO := Lib.hid (RFO.out.below hb)
    replace HB := Lib.hid (HB.out.trans (hb.mono HB.out.size))
    clear hb
    have E1 := Lib.hid (enters_of Try.func19 (by kernel_rfl) rfl)
    have E2 := Lib.hid (enters_of Try.func40 (by kernel_rfl) rfl)
    have E3 := Lib.hid (enters_of Try.func31 (by kernel_rfl) rfl)
    have E4 := Lib.hid (enters_of Try.func37 (by kernel_rfl) rfl)
    have E5 := Lib.hid (enters_of Try.func59 (by kernel_rfl) rfl)
    have E6 := Lib.hid (enters_of Try.func24 (by kernel_rfl) rfl)
    have HV := Lib.hid (fun W : World => k_vals (w := W.alloc (.cells #[.int .i64 8, .int .i64 6] 3)) (v := .slice (some ⟨W.heap.size, 0, none⟩) 2 2) [8, 6] [⟨0, 8⟩, ⟨0, 6⟩] 2 (rd_new int_len 3 [8, 6] _ 2 _ (heap_alloc_new _ _) rfl rfl (by decide)) (by decide) rfl rfl)
    have HZ := Lib.hid (fun (W : World) => rd_new (w := W.alloc (.cells #[.int .i64 1, .int .i64 1, .int .i64 0, .int .i64 5, .int .i64 7, .int .i64 2, .int .i64 0, .int .i64 0, .int .i64 9, .int .i64 2, .int .i64 0, .int .i64 0] 39)) step_len 39 lineZ W.heap.size 3 _ (heap_alloc_new _ _) rfl rfl (by decide))
    go_region_held3 (fun W => W.cell? ⟨Y4, 1, none⟩ = some (.slice aY 4 cY) ∧ W.cell? ⟨Z, 0, none⟩ = some (.int .i64 1) ∧ W.cell? ⟨Z, 1, none⟩ = some (.slice aZ 3 cZ)) (first | exact ⟨s1, z0, z1⟩ | exact ⟨below_cell ((Below.refl _ _).alloc (Nat.le_refl _) _) s1, below_cell ((Below.refl _ _).alloc (Nat.le_refl _) _) z0, below_cell ((Below.refl _ _).alloc (Nat.le_refl _) _) z1⟩ | go_keep) ((first | (go_at_call 19; ((with_reducible refine (k_sameSpans RD.out RTW.out).mono ?_)); rintro _ wK ⟨rfl, hbK⟩; first | (have hb2 := hbK; replace s1 := below_cell hb2 s1; replace z0 := below_cell hb2 z0; replace z1 := below_cell hb2 z1; replace RD := Lib.hid (RD.out.below hb2); replace RC := Lib.hid (RC.out.below hb2); replace RR := Lib.hid (RR.out.below hb2); replace RZ := Lib.hid (RZ.out.below hb2); replace RTW := Lib.hid (RTW.out.below hb2); replace RFO := Lib.hid (RFO.out.below hb2); replace HB := Lib.hid (HB.out.trans (hb2.mono HB.out.size)); clear hb2 hbK) | (have hb2 := ((Below.refl _ _).alloc (Nat.le_refl _) _).trans (hbK.mono (by simp)); replace s1 := below_cell hb2 s1; replace z0 := below_cell hb2 z0; replace z1 := below_cell hb2 z1; replace RD := Lib.hid (RD.out.below hb2); replace RC := Lib.hid (RC.out.below hb2); replace RR := Lib.hid (RR.out.below hb2); replace RZ := Lib.hid (RZ.out.below hb2); replace RTW := Lib.hid (RTW.out.below hb2); replace RFO := Lib.hid (RFO.out.below hb2); replace HB := Lib.hid (HB.out.trans (hb2.mono HB.out.size)); clear hb2 hbK)) | (go_at_call 19; ((with_reducible refine (k_sameSpans RR.out RFO.out).mono ?_)); rintro _ wK ⟨rfl, hbK⟩; first | (have hb2 := hbK; replace s1 := below_cell hb2 s1; replace z0 := below_cell hb2 z0; replace z1 := below_cell hb2 z1; replace RD := Lib.hid (RD.out.below hb2); replace RC := Lib.hid (RC.out.below hb2); replace RR := Lib.hid (RR.out.below hb2); replace RZ := Lib.hid (RZ.out.below hb2); replace RTW := Lib.hid (RTW.out.below hb2); replace RFO := Lib.hid (RFO.out.below hb2); replace HB := Lib.hid (HB.out.trans (hb2.mono HB.out.size)); clear hb2 hbK) | (have hb2 := ((Below.refl _ _).alloc (Nat.le_refl _) _).trans (hbK.mono (by simp)); replace s1 := below_cell hb2 s1; replace z0 := below_cell hb2 z0; replace z1 := below_cell hb2 z1; replace RD := Lib.hid (RD.out.below hb2); replace RC := Lib.hid (RC.out.below hb2); replace RR := Lib.hid (RR.out.below hb2); replace RZ := Lib.hid (RZ.out.below hb2); replace RTW := Lib.hid (RTW.out.below hb2); replace RFO := Lib.hid (RFO.out.below hb2); replace HB := Lib.hid (HB.out.trans (hb2.mono HB.out.size)); clear hb2 hbK)) | (go_at_call 40; ((with_reducible refine (HV.out _).mono ?_)); rintro _ wK ⟨aV, cV, rfl, rv, hbK⟩; first | (have hb2 := hbK; replace s1 := below_cell hb2 s1; replace z0 := below_cell hb2 z0; replace z1 := below_cell hb2 z1; replace RD := Lib.hid (RD.out.below hb2); replace RC := Lib.hid (RC.out.below hb2); replace RR := Lib.hid (RR.out.below hb2); replace RZ := Lib.hid (RZ.out.below hb2); replace RTW := Lib.hid (RTW.out.below hb2); replace RFO := Lib.hid (RFO.out.below hb2); replace HB := Lib.hid (HB.out.trans (hb2.mono HB.out.size)); clear hb2 hbK) | (have hb2 := ((Below.refl _ _).alloc (Nat.le_refl _) _).trans (hbK.mono (by simp)); replace s1 := below_cell hb2 s1; replace z0 := below_cell hb2 z0; replace z1 := below_cell hb2 z1; replace RD := Lib.hid (RD.out.below hb2); replace RC := Lib.hid (RC.out.below hb2); replace RR := Lib.hid (RR.out.below hb2); replace RZ := Lib.hid (RZ.out.below hb2); replace RTW := Lib.hid (RTW.out.below hb2); replace RFO := Lib.hid (RFO.out.below hb2); replace HB := Lib.hid (HB.out.trans (hb2.mono HB.out.size)); clear hb2 hbK); have RV := Lib.hid rv; clear rv) | (go_at_call 31; ((with_reducible refine (k_samePairs RC.out RV.out).mono ?_)); rintro _ wK ⟨rfl, hbK⟩; first | (have hb2 := hbK; replace s1 := below_cell hb2 s1; replace z0 := below_cell hb2 z0; replace z1 := below_cell hb2 z1; replace RD := Lib.hid (RD.out.below hb2); replace RC := Lib.hid (RC.out.below hb2); replace RR := Lib.hid (RR.out.below hb2); replace RZ := Lib.hid (RZ.out.below hb2); replace RTW := Lib.hid (RTW.out.below hb2); replace RFO := Lib.hid (RFO.out.below hb2); replace HB := Lib.hid (HB.out.trans (hb2.mono HB.out.size)); clear hb2 hbK) | (have hb2 := ((Below.refl _ _).alloc (Nat.le_refl _) _).trans (hbK.mono (by simp)); replace s1 := below_cell hb2 s1; replace z0 := below_cell hb2 z0; replace z1 := below_cell hb2 z1; replace RD := Lib.hid (RD.out.below hb2); replace RC := Lib.hid (RC.out.below hb2); replace RR := Lib.hid (RR.out.below hb2); replace RZ := Lib.hid (RZ.out.below hb2); replace RTW := Lib.hid (RTW.out.below hb2); replace RFO := Lib.hid (RFO.out.below hb2); replace HB := Lib.hid (HB.out.trans (hb2.mono HB.out.size)); clear hb2 hbK)) | (go_at_call 37; ((with_reducible refine (in_any _ _ _).mono ?_)); rintro _ wK ⟨rfl, hbK⟩; first | (have hb2 := hbK; replace s1 := below_cell hb2 s1; replace z0 := below_cell hb2 z0; replace z1 := below_cell hb2 z1; replace RD := Lib.hid (RD.out.below hb2); replace RC := Lib.hid (RC.out.below hb2); replace RR := Lib.hid (RR.out.below hb2); replace RZ := Lib.hid (RZ.out.below hb2); replace RTW := Lib.hid (RTW.out.below hb2); replace RFO := Lib.hid (RFO.out.below hb2); replace HB := Lib.hid (HB.out.trans (hb2.mono HB.out.size)); clear hb2 hbK) | (have hb2 := ((Below.refl _ _).alloc (Nat.le_refl _) _).trans (hbK.mono (by simp)); replace s1 := below_cell hb2 s1; replace z0 := below_cell hb2 z0; replace z1 := below_cell hb2 z1; replace RD := Lib.hid (RD.out.below hb2); replace RC := Lib.hid (RC.out.below hb2); replace RR := Lib.hid (RR.out.below hb2); replace RZ := Lib.hid (RZ.out.below hb2); replace RTW := Lib.hid (RTW.out.below hb2); replace RFO := Lib.hid (RFO.out.below hb2); replace HB := Lib.hid (HB.out.trans (hb2.mono HB.out.size)); clear hb2 hbK)) | (go_at_call 59; ((with_reducible refine (out_any _ _).mono ?_)); rintro _ wK ⟨rfl, hbK⟩; first | (have hb2 := hbK; replace s1 := below_cell hb2 s1; replace z0 := below_cell hb2 z0; replace z1 := below_cell hb2 z1; replace RD := Lib.hid (RD.out.below hb2); replace RC := Lib.hid (RC.out.below hb2); replace RR := Lib.hid (RR.out.below hb2); replace RZ := Lib.hid (RZ.out.below hb2); replace RTW := Lib.hid (RTW.out.below hb2); replace RFO := Lib.hid (RFO.out.below hb2); replace HB := Lib.hid (HB.out.trans (hb2.mono HB.out.size)); clear hb2 hbK) | (have hb2 := ((Below.refl _ _).alloc (Nat.le_refl _) _).trans (hbK.mono (by simp)); replace s1 := below_cell hb2 s1; replace z0 := below_cell hb2 z0; replace z1 := below_cell hb2 z1; replace RD := Lib.hid (RD.out.below hb2); replace RC := Lib.hid (RC.out.below hb2); replace RR := Lib.hid (RR.out.below hb2); replace RZ := Lib.hid (RZ.out.below hb2); replace RTW := Lib.hid (RTW.out.below hb2); replace RFO := Lib.hid (RFO.out.below hb2); replace HB := Lib.hid (HB.out.trans (hb2.mono HB.out.size)); clear hb2 hbK)) | (go_at_call 24; ((with_reducible refine (k_same (RZ.out.below ((Below.refl _ _).alloc (Nat.le_refl _) _)) (HZ.out _)).mono ?_)); rintro _ wK ⟨rfl, hbK⟩; first | (have hb2 := hbK; replace s1 := below_cell hb2 s1; replace z0 := below_cell hb2 z0; replace z1 := below_cell hb2 z1; replace RD := Lib.hid (RD.out.below hb2); replace RC := Lib.hid (RC.out.below hb2); replace RR := Lib.hid (RR.out.below hb2); replace RZ := Lib.hid (RZ.out.below hb2); replace RTW := Lib.hid (RTW.out.below hb2); replace RFO := Lib.hid (RFO.out.below hb2); replace HB := Lib.hid (HB.out.trans (hb2.mono HB.out.size)); clear hb2 hbK) | (have hb2 := ((Below.refl _ _).alloc (Nat.le_refl _) _).trans (hbK.mono (by simp)); replace s1 := below_cell hb2 s1; replace z0 := below_cell hb2 z0; replace z1 := below_cell hb2 z1; replace RD := Lib.hid (RD.out.below hb2); replace RC := Lib.hid (RC.out.below hb2); replace RR := Lib.hid (RR.out.below hb2); replace RZ := Lib.hid (RZ.out.below hb2); replace RTW := Lib.hid (RTW.out.below hb2); replace RFO := Lib.hid (RFO.out.below hb2); replace HB := Lib.hid (HB.out.trans (hb2.mono HB.out.size)); clear hb2 hbK)) | fail))
    all_goals (go_wp2; go_ret; exact ⟨rfl, HB.out⟩)
end Go.Proofs.Ytkoeplbkeboklaa
/- A line, a step, opened as arguments: what the laws' walks are told of them. -/
set_option linter.unusedVariables false
set_option linter.unusedSimpArgs false
namespace Go.Proofs.Ytkoeplbkeboklaa
open Go.ChangeShapes Go.WideShapes Go.RowKit Go.Joins Go.Deep
theorem Try.cells25 : Try.prog.cellsOf 25 = 2 := by kernel_rfl
theorem Try.cells39 : Try.prog.cellsOf 39 = 4 := by kernel_rfl
theorem Try.cells3 : Try.prog.cellsOf 3 = 1 := by kernel_rfl
theorem Try.cells37 : Try.prog.cellsOf 37 = 1 := by kernel_rfl
section
variable {H : Type} {enc : TypeId × Value → H} {w : World} {base : Nat} {spare : Nat → Bool} {held : Bool}
set_option maxRecDepth 100000 in
theorem steps_spot {W : World} {r : Reach} {b0 : Nat} {c0 u : Value} (hv : Value.okWide Try.prog W r b0 25 (.agg #[c0, u])) : ∀ a n c, u = .slice (some a) n c → a.spot = none := by
  unfold Value.okWide at hv
  rw [Try.underlying25] at hv
  obtain ⟨cs, hcs, _, ts, hts, _, h⟩ := hv
  injection hcs with hcs
  subst hcs
  have e : Try.prog.cellTypes Try.prog.depth 25 = some [22, 23] := by kernel_rfl
  rw [e] at hts
  injection hts with hts
  subst hts
  obtain ⟨t, ht, hc⟩ := h 1 u rfl
  have ht' : t = 23 := by simpa using ht.symm
  subst ht'
  rintro a n c rfl
  unfold Cell.okWide Cell.ok at hc
  simp only [Try.underlying23] at hc
  exact hc.2.2.2.1
set_option maxRecDepth 100000 in
theorem open_step_cells {n : Nat} {cs : List Value} {x : DataW H × List MemPlace} (h : DataW.trod enc Try.prog w base spare held n 39 cs = some x) : ∃ s : Step, cs = s.cells := by
  obtain ⟨y0, y1, y2, y3, m, _, hlen, h0, h1, h2, h3⟩ := trod_struct4 Try.underlying39 h
  rw [Try.cells39] at hlen
  match cs, hlen with
  | [c0, c1, c2, c3], _ =>
    simp only [Try.cells3, Try.cells37, List.drop_zero, List.drop_succ_cons, List.take_succ_cons, List.take_zero] at h0 h1 h2 h3
    obtain ⟨a, e0, _, wa⟩ := DataW.trod_int Try.underlying3 h0
    obtain ⟨b, e1, _, wb⟩ := DataW.trod_int Try.underlying37 h1
    obtain ⟨c, e2, _, wc⟩ := DataW.trod_int Try.underlying3 h2
    obtain ⟨d, e3, _, wd⟩ := DataW.trod_int Try.underlying3 h3
    simp at e0 e1 e2 e3
    subst e0 e1 e2 e3
    exact ⟨⟨a, b, c, d⟩, rfl⟩
instance : Inhabited Step := ⟨⟨0, 0, 0, 0⟩⟩
theorem open_steps {n : Nat} {v : Value} {x : DataW H × List MemPlace} (hsp : ∀ a n c, v = .slice (some a) n c → a.spot = none) (h : DataW.trod enc Try.prog w base spare held n 23 [v] = some x) :
    ∃ l : List Step, Rd Step.cells 4 w v l ∧ SlOk v := by
  rcases open_slice Try.underlying23 h with ⟨hcs, _⟩ | ⟨a, len, cap, m, n', D, Pl, hcs, _, hl, hm, hmm, _, hx⟩
  · injection hcs with hcs
    exact ⟨[], hcs ▸ Rd.nil _ _ _, .inl hcs⟩
  · injection hcs with hcs
    subst hcs
    rw [Try.cells39] at hx
    have hlm : len ≤ m := by rw [hmm]; split <;> omega
    obtain ⟨f, hf⟩ := choose_lt (α := Step) (n := len) (p := fun i s => ∀ j, j < 4 → w.cell? (a.add (i * 4 + j)) = s.cells[j]?) fun i hi => by
      obtain ⟨cs', h1, h2⟩ := hx i (by omega)
      obtain ⟨s, rfl⟩ := open_step_cells h2
      obtain ⟨_, _, h3⟩ := World.cells?_some h1
      exact ⟨s, fun j hj => by rw [← h3 j hj, add_add]⟩
    obtain ⟨b, off, spot⟩ := a
    have hspot : spot = none := hsp _ _ _ rfl
    subst hspot
    rcases Nat.eq_zero_or_pos len with h0 | h0
    · subst h0
      exact ⟨[], ⟨by simp, _, _, rfl, fun h => by simp at h⟩, .inr ⟨b, off, 0, cap, rfl, hl⟩⟩
    · have hc0 := hf 0 h0 0 (by omega)
      have hb : b < w.heap.size := World.block_lt_of_cell? w ⟨b, off, none⟩ (u := .int .i64 (f 0).at_) (by
        have : w.cell? ((⟨b, off, none⟩ : Addr).add (0 * 4 + 0)) = some (.int .i64 (f 0).at_) := hc0
        simpa [Addr.add] using this)
      have hlen : ((List.range len).map f).length = len := by simp
      refine ⟨(List.range len).map f, ⟨by rw [hlen]; unfold maxLen at hm; omega, some ⟨b, off, none⟩, cap, by rw [hlen], fun _ => ⟨b, off, rfl, hb, ?_⟩⟩, .inr ⟨b, off, len, cap, rfl, hl⟩⟩
      intro i s hs j u hu
      obtain ⟨hi, hs'⟩ := List.getElem?_eq_some_iff.1 hs
      simp only [List.length_map, List.length_range] at hi
      have hj : j < 4 := (List.getElem?_eq_some_iff.1 hu).1
      have := hf i hi j hj
      rw [addr_add] at this
      rw [Nat.add_assoc, this]
      simp only [List.getElem_map, List.getElem_range] at hs'
      rw [hs']
      exact hu
set_option maxRecDepth 100000 in
/-- A line that came in. -/
theorem open_line {W : World} {v : Value} {d : DataW H} {p : List MemPlace} {b0 : Nat} (hv : Value.okWide Try.prog W .any b0 25 v) (h : DataW.Trod enc Try.prog W base spare held 25 v d p) :
    ∃ (k : Int) (u : Value) (l : List Step), v = .agg #[.int .i64 k, u] ∧ Rd Step.cells 4 W u l ∧ SlOk u := by
  obtain ⟨c0, c1, y0, y1, m, rfl, rfl, rfl, hy0, hy1⟩ := open_agg2 Try.underlying25 (by kernel_rfl) Try.cells25 hv h
  obtain ⟨a, e0, _, wa⟩ := DataW.trod_int Try.underlying22 hy0
  simp at e0
  subst e0
  obtain ⟨l, h1, h2⟩ := open_steps (steps_spot hv) hy1
  exact ⟨a, c1, l, rfl, h1, h2⟩
set_option maxRecDepth 100000 in
/-- A step that came in. -/
theorem open_step {W : World} {v : Value} {d : DataW H} {p : List MemPlace} {b0 : Nat} (hv : Value.okWide Try.prog W .any b0 39 v) (h : DataW.Trod enc Try.prog W base spare held 39 v d p) :
    ∃ s : Step, v = .agg #[.int .i64 s.at_, .int .i64 s.do_, .int .i64 s.key, .int .i64 s.val] := by
  obtain ⟨c0, c1, c2, c3, y0, y1, y2, y3, m, rfl, _, _, h0, h1, h2, h3⟩ := open_agg4 Try.underlying39 (by kernel_rfl) Try.cells39 hv h
  obtain ⟨a, e0, _, wa⟩ := DataW.trod_int Try.underlying3 h0
  obtain ⟨b, e1, _, wb⟩ := DataW.trod_int Try.underlying37 h1
  obtain ⟨c, e2, _, wc⟩ := DataW.trod_int Try.underlying3 h2
  obtain ⟨d, e3, _, wd⟩ := DataW.trod_int Try.underlying3 h3
  simp at e0 e1 e2 e3
  subst e0 e1 e2 e3
  exact ⟨⟨a, b, c, d⟩, rfl⟩
end
end Go.Proofs.Ytkoeplbkeboklaa
/- The contracts of layer 14 and of its reference, in the form that the laws' walks take: both yield what the plain function says. -/
set_option linter.unusedVariables false
set_option linter.unusedSimpArgs false
namespace Go.Proofs.Ytkoeplbkeboklaa
open Go.RowKit
section
variable {w : World} {k : Int} {v : Value} {l : List Step}
theorem g_at (t : Int)(ps : List Pair) (er : Int) (hr : Rd Step.cells 4 w v l) (he : atP k l t = (ps, er)) :
    Calls Try.prog 29 #[.agg #[.int .i64 k, v], .int .i64 t] w fun e w' => ∃ a c, e = .returned (.tuple #[.slice a ps.length c, .int .i64 er]) ∧ Rd Pair.cells 2 w' (.slice a ps.length c) ps ∧ Below w.heap.size w w' :=
  (at_any k v l t w hr).mono fun e w' ⟨v', h1, h2, h3⟩ => by
    rw [he] at h1 h2
    obtain ⟨a, c, rfl, hrd⟩ := win_out pair_len h2 rfl _ rfl
    exact ⟨a, c, h1, hrd, h3⟩

theorem g_refAt (t : Int)(ps : List Pair) (er : Int) (hr : Rd Step.cells 4 w v l) (he : atP k l t = (ps, er)) :
    Calls Try.prog 30 #[.agg #[.int .i64 k, v], .int .i64 t] w fun e w' => ∃ a c, e = .returned (.tuple #[.slice a ps.length c, .int .i64 er]) ∧ Rd Pair.cells 2 w' (.slice a ps.length c) ps ∧ Below w.heap.size w w' :=
  (refAt_any k v l t w hr).mono fun e w' ⟨v', h1, h2, h3⟩ => by
    rw [he] at h1 h2
    obtain ⟨a, c, rfl, hrd⟩ := win_out pair_len h2 rfl _ rfl
    exact ⟨a, c, h1, hrd, h3⟩

theorem g_lives (ps : List Life) (er : Int) (hr : Rd Step.cells 4 w v l) (he : livesP k l = (ps, er)) :
    Calls Try.prog 14 #[.agg #[.int .i64 k, v]] w fun e w' => ∃ a c, e = .returned (.tuple #[.slice a ps.length c, .int .i64 er]) ∧ Rd Life.cells 4 w' (.slice a ps.length c) ps ∧ Below w.heap.size w w' :=
  (rLives_any k v l w hr).mono fun e w' ⟨v', h1, h2, h3⟩ => by
    rw [he] at h1 h2
    obtain ⟨a, c, rfl, hrd⟩ := win_out life_len h2 rfl _ rfl
    exact ⟨a, c, h1, hrd, h3⟩

theorem g_refLives (ps : List Life) (er : Int) (hr : Rd Step.cells 4 w v l) (he : livesP k l = (ps, er)) :
    Calls Try.prog 15 #[.agg #[.int .i64 k, v]] w fun e w' => ∃ a c, e = .returned (.tuple #[.slice a ps.length c, .int .i64 er]) ∧ Rd Life.cells 4 w' (.slice a ps.length c) ps ∧ Below w.heap.size w w' :=
  (refLives_any k v l w hr).mono fun e w' ⟨v', h1, h2, h3⟩ => by
    rw [he] at h1 h2
    obtain ⟨a, c, rfl, hrd⟩ := win_out life_len h2 rfl _ rfl
    exact ⟨a, c, h1, hrd, h3⟩

theorem g_takes (ps : List Span) (er : Int) (hr : Rd Step.cells 4 w v l) (he : takesP k l = (ps, er)) :
    Calls Try.prog 16 #[.agg #[.int .i64 k, v]] w fun e w' => ∃ a c, e = .returned (.tuple #[.slice a ps.length c, .int .i64 er]) ∧ Rd Span.cells 2 w' (.slice a ps.length c) ps ∧ Below w.heap.size w w' :=
  (rTakes_any k v l w hr).mono fun e w' ⟨v', h1, h2, h3⟩ => by
    rw [he] at h1 h2
    obtain ⟨a, c, rfl, hrd⟩ := win_out span_len h2 rfl _ rfl
    exact ⟨a, c, h1, hrd, h3⟩

theorem g_refTakes (ps : List Span) (er : Int) (hr : Rd Step.cells 4 w v l) (he : takesP k l = (ps, er)) :
    Calls Try.prog 17 #[.agg #[.int .i64 k, v]] w fun e w' => ∃ a c, e = .returned (.tuple #[.slice a ps.length c, .int .i64 er]) ∧ Rd Span.cells 2 w' (.slice a ps.length c) ps ∧ Below w.heap.size w w' :=
  (refTakes_any k v l w hr).mono fun e w' ⟨v', h1, h2, h3⟩ => by
    rw [he] at h1 h2
    obtain ⟨a, c, rfl, hrd⟩ := win_out span_len h2 rfl _ rfl
    exact ⟨a, c, h1, hrd, h3⟩

theorem g_delete (t : Int)(k' : Int) (ls : List Step) (ds : List Span) (er : Int) (hr : Rd Step.cells 4 w v l) (he : deleteP k l t = ((k', ls), ds, er)) :
    Calls Try.prog 25 #[.agg #[.int .i64 k, v], .int .i64 t] w fun e w' => ∃ a c a' c', e = .returned (.tuple #[.agg #[.int .i64 k', .slice a ls.length c], .slice a' ds.length c', .int .i64 er]) ∧ Rd Step.cells 4 w' (.slice a ls.length c) ls ∧ Rd Span.cells 2 w' (.slice a' ds.length c') ds ∧ Below w.heap.size w w' ∧ (∀ i, some i = (Value.slice a ls.length c).ownBlock → w.heap.size ≤ i) ∧ ∀ i, some i = (Value.slice a' ds.length c').ownBlock → w.heap.size ≤ i :=
  (rDelete_any k v l t w hr).mono fun e w' ⟨v1, v2, h1, h2, h3, h4⟩ => by
    rw [he] at h1 h2 h3
    have o1 := winC_ob h2
    have o2 := winC_ob h3
    obtain ⟨a, c, rfl, hrd⟩ := win_out step_len h2 rfl _ rfl
    obtain ⟨a', c', rfl, hrd'⟩ := win_out span_len h3 rfl _ rfl
    exact ⟨a, c, a', c', h1, hrd, hrd', h4, fun i hi => (o1 i hi).1, fun i hi => (o2 i hi).1⟩

theorem g_refDelete (t : Int) (hok : SlOk v)(k' : Int) (ls : List Step) (ds : List Span) (er : Int) (hr : Rd Step.cells 4 w v l) (he : deleteP k l t = ((k', ls), ds, er)) :
    Calls Try.prog 26 #[.agg #[.int .i64 k, v], .int .i64 t] w fun e w' => ∃ a c a' c', e = .returned (.tuple #[.agg #[.int .i64 k', .slice a ls.length c], .slice a' ds.length c', .int .i64 er]) ∧ Rd Step.cells 4 w' (.slice a ls.length c) ls ∧ Rd Span.cells 2 w' (.slice a' ds.length c') ds ∧ Below w.heap.size w w' ∧ (∀ i, some i = (Value.slice a ls.length c).ownBlock → w.heap.size ≤ i) ∧ ∀ i, some i = (Value.slice a' ds.length c').ownBlock → w.heap.size ≤ i :=
  (refDelete_any k v l t w hr hok).mono fun e w' ⟨v1, v2, h1, h2, h3, h4⟩ => by
    rw [he] at h1 h2 h3
    have o1 := winC_ob h2
    have o2 := winC_ob h3
    obtain ⟨a, c, rfl, hrd⟩ := win_out step_len h2 rfl _ rfl
    obtain ⟨a', c', rfl, hrd'⟩ := win_out span_len h3 rfl _ rfl
    exact ⟨a, c, a', c', h1, hrd, hrd', h4, fun i hi => (o1 i hi).1, fun i hi => (o2 i hi).1⟩

theorem g_insert (s : Step)(k' : Int) (ls : List Step) (ds : List Span) (er : Int) (hr : Rd Step.cells 4 w v l) (he : insertP k l s = ((k', ls), ds, er)) :
    Calls Try.prog 22 #[.agg #[.int .i64 k, v], .agg #[.int .i64 s.at_, .int .i64 s.do_, .int .i64 s.key, .int .i64 s.val]] w fun e w' => ∃ a c a' c', e = .returned (.tuple #[.agg #[.int .i64 k', .slice a ls.length c], .slice a' ds.length c', .int .i64 er]) ∧ Rd Step.cells 4 w' (.slice a ls.length c) ls ∧ Rd Span.cells 2 w' (.slice a' ds.length c') ds ∧ Below w.heap.size w w' ∧ (∀ i, some i = (Value.slice a ls.length c).ownBlock → w.heap.size ≤ i) ∧ ∀ i, some i = (Value.slice a' ds.length c').ownBlock → w.heap.size ≤ i :=
  (rInsert_any k v l s w hr).mono fun e w' ⟨v1, v2, h1, h2, h3, h4⟩ => by
    rw [he] at h1 h2 h3
    have o1 := winC_ob h2
    have o2 := winC_ob h3
    obtain ⟨a, c, rfl, hrd⟩ := win_out step_len h2 rfl _ rfl
    obtain ⟨a', c', rfl, hrd'⟩ := win_out span_len h3 rfl _ rfl
    exact ⟨a, c, a', c', h1, hrd, hrd', h4, fun i hi => (o1 i hi).1, fun i hi => (o2 i hi).1⟩

theorem g_refInsert (s : Step) (hok : SlOk v)(k' : Int) (ls : List Step) (ds : List Span) (er : Int) (hr : Rd Step.cells 4 w v l) (he : insertP k l s = ((k', ls), ds, er)) :
    Calls Try.prog 23 #[.agg #[.int .i64 k, v], .agg #[.int .i64 s.at_, .int .i64 s.do_, .int .i64 s.key, .int .i64 s.val]] w fun e w' => ∃ a c a' c', e = .returned (.tuple #[.agg #[.int .i64 k', .slice a ls.length c], .slice a' ds.length c', .int .i64 er]) ∧ Rd Step.cells 4 w' (.slice a ls.length c) ls ∧ Rd Span.cells 2 w' (.slice a' ds.length c') ds ∧ Below w.heap.size w w' ∧ (∀ i, some i = (Value.slice a ls.length c).ownBlock → w.heap.size ≤ i) ∧ ∀ i, some i = (Value.slice a' ds.length c').ownBlock → w.heap.size ≤ i :=
  (refInsert_any k v l s w hr hok).mono fun e w' ⟨v1, v2, h1, h2, h3, h4⟩ => by
    rw [he] at h1 h2 h3
    have o1 := winC_ob h2
    have o2 := winC_ob h3
    obtain ⟨a, c, rfl, hrd⟩ := win_out step_len h2 rfl _ rfl
    obtain ⟨a', c', rfl, hrd'⟩ := win_out span_len h3 rfl _ rfl
    exact ⟨a, c, a', c', h1, hrd, hrd', h4, fun i hi => (o1 i hi).1, fun i hi => (o2 i hi).1⟩

theorem g_slim (t : Int) (k' : Int) (ls : List Step) (er : Int) (hr : Rd Step.cells 4 w v l) (he : slimP k l t = ((k', ls), er)) :
    Calls Try.prog 27 #[.agg #[.int .i64 k, v], .int .i64 t] w fun e w' => ∃ a c, e = .returned (.tuple #[.agg #[.int .i64 k', .slice a ls.length c], .int .i64 er]) ∧ Rd Step.cells 4 w' (.slice a ls.length c) ls ∧ Below w.heap.size w w' ∧ ∀ i, some i = (Value.slice a ls.length c).ownBlock → w.heap.size ≤ i :=
  (rSlim_any k v l t w hr).mono fun e w' ⟨v1, h1, h2, h4⟩ => by
    rw [he] at h1 h2
    have o1 := winC_ob h2
    obtain ⟨a, c, rfl, hrd⟩ := win_out step_len h2 rfl _ rfl
    exact ⟨a, c, h1, hrd, h4, fun i hi => (o1 i hi).1⟩
theorem g_refSlim (t : Int) (k' : Int) (ls : List Step) (er : Int) (hr : Rd Step.cells 4 w v l) (he : slimP k l t = ((k', ls), er)) :
    Calls Try.prog 28 #[.agg #[.int .i64 k, v], .int .i64 t] w fun e w' => ∃ a c, e = .returned (.tuple #[.agg #[.int .i64 k', .slice a ls.length c], .int .i64 er]) ∧ Rd Step.cells 4 w' (.slice a ls.length c) ls ∧ Below w.heap.size w w' ∧ ∀ i, some i = (Value.slice a ls.length c).ownBlock → w.heap.size ≤ i :=
  (refSlim_any k v l t w hr).mono fun e w' ⟨v1, h1, h2, h4⟩ => by
    rw [he] at h1 h2
    have o1 := winC_ob h2
    obtain ⟨a, c, rfl, hrd⟩ := win_out step_len h2 rfl _ rfl
    exact ⟨a, c, h1, hrd, h4, fun i hi => (o1 i hi).1⟩
variable {k2 : Int} {v2 : Value} {l2 : List Step}
theorem g_diff (ds : List Span) (er : Int) (hr : Rd Step.cells 4 w v l) (hr2 : Rd Step.cells 4 w v2 l2) (he : diffP k l k2 l2 = (ds, er)) :
    Calls Try.prog 34 #[.agg #[.int .i64 k, v], .agg #[.int .i64 k2, v2]] w fun e w' => ∃ a c, e = .returned (.tuple #[.slice a ds.length c, .int .i64 er]) ∧ Rd Span.cells 2 w' (.slice a ds.length c) ds ∧ Below w.heap.size w w' :=
  (rdiff_any k k2 v v2 l l2 w hr hr2).mono fun e w' ⟨v1, h1, h2, h4⟩ => by
    rw [he] at h1 h2
    obtain ⟨a, c, rfl, hrd⟩ := win_out span_len h2 rfl _ rfl
    exact ⟨a, c, h1, hrd, h4⟩
theorem g_refDiff (ds : List Span) (er : Int) (hr : Rd Step.cells 4 w v l) (hr2 : Rd Step.cells 4 w v2 l2) (he : diffP k l k2 l2 = (ds, er)) :
    Calls Try.prog 35 #[.agg #[.int .i64 k, v], .agg #[.int .i64 k2, v2]] w fun e w' => ∃ a c, e = .returned (.tuple #[.slice a ds.length c, .int .i64 er]) ∧ Rd Span.cells 2 w' (.slice a ds.length c) ds ∧ Below w.heap.size w w' :=
  (refDiff_any k k2 v v2 l l2 w hr hr2).mono fun e w' ⟨v1, h1, h2, h4⟩ => by
    rw [he] at h1 h2
    obtain ⟨a, c, rfl, hrd⟩ := win_out span_len h2 rfl _ rfl
    exact ⟨a, c, h1, hrd, h4⟩
end
end Go.Proofs.Ytkoeplbkeboklaa
