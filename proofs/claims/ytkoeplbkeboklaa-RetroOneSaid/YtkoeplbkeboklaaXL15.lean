/- The law RetroOne, walked. (Printed by laws15.py.) -/
import Derived.Test.YtkoeplbkeboklaaXL13
import Derived.Test.YtkoeplbkeboklaaXL14
import Derived.Test.YtkoeplbkeboklaaXL7
import Derived.Test.YtkoeplbkeboklaaXP20
set_option linter.unusedVariables false
set_option linter.unusedSimpArgs false
namespace Go.Proofs.Ytkoeplbkeboklaa
open Go.RowKit Go.Shelf
attribute [local go_sem] Oper.semAt_some
theorem step_call_w {P : Program} {ops : Array Oper} {o : Oper} {a : Act} {w : World} {K : Act → World → Prop} {Q : Exit → Act → World → Prop} {E : Prop} (hw : Region.wanted o (yielded ops a.tmps) = true) (f : FuncId) (fargs : Array Operand) (tys : Array TypeId)
    (ho : o.op = .call { callee := .value (.func f), args := fargs, argTypes := tys }) (he : ∀ args w, (callFunc f args).run P w = .ok (.enter f args) w) (args : Array Value) (hargs' : fargs.toList.map a.eval = args.toList)
    {R : Ending → World → Prop} (hc : Calls P f args w R) (h : ∀ e w', R e w' → ∃ v, e = .returned v ∧ K (a.put o.dst v) w') :
    if Region.wanted o (yielded ops a.tmps) = true then Oper.wp P o a w K Q else E := by
  rw [if_pos hw]
  have h1 := step_call (E := True) (ops := #[]) (o := { o with guard := none }) (Q := Q) rfl f fargs tys ho he args hargs' hc h
  have hw1 : Region.wanted { o with guard := none } (yielded #[] a.tmps) = true := by simp [Region.wanted]
  rw [if_pos hw1] at h1
  exact h1
theorem _root_.Go.RowKit.Below.below {w w1 w2 : World} (h : Below w.heap.size w w1) (hb : Below w1.heap.size w1 w2) : Below w.heap.size w w2 := h.trans (hb.mono h.size)
set_option maxRecDepth 100000 in
set_option maxHeartbeats 16000000 in
theorem w_RetroOne (k : Int) (u : Value) (l : List Step) (s : Step) (t : Int) (w : World) (hr : Rd Step.cells 4 w u l) (hok : SlOk u) :
    Calls Try.prog 13 #[.agg #[.int .i64 k, u], .agg #[.int .i64 s.at_, .int .i64 s.do_, .int .i64 s.key, .int .i64 s.val], .int .i64 t] w fun e w' => e = .returned (.bool true) ∧ Below w.heap.size w w' := by
  obtain ⟨a, c, rfl⟩ : ∃ a c, u = .slice a l.length c := by obtain ⟨_, a, c, rfl, _⟩ := hr; exact ⟨a, c, rfl⟩
  have HB := Lib.hid (Below.refl w.heap.size w)
  have RS := Lib.hid hr
  have HOK := Lib.hid hok
  clear hr hok
  obtain ⟨k', ls, ds, er, he⟩ : ∃ k' ls ds er, insertP k l s = ((k', ls), ds, er) := ⟨_, _, _, _, rfl⟩
  have E1 := Lib.hid he

  by_cases her : ¬ er = 0
  · have her2 : (er != 0) = true := by simp [her]
    clear he
    go_enter Try.func13, Try.ntmps13

    go_wp2_with fail
    refine named_box3 (G := fun W => Calls _ _ _ W _) w _ _ _ _ _ _ fun w2 hb hz hx0 hx1 hx2 => ?_
    replace RS := Lib.hid (RS.out.below hb)
    replace HB := Lib.hid (HB.out.trans (hb.mono HB.out.size))
    clear hb
    have c0 : w2.cell? ⟨w.heap.size, 0, none⟩ = some (.int .i64 k) := cell_blk hx0 0
    have c1 : w2.cell? ⟨w.heap.size, 1, none⟩ = some (.slice a l.length c) := cell_blk hx0 1
    have b0 : w2.cell? ⟨w.heap.size + 1, 0, none⟩ = some (.int .i64 s.at_) := cell_blk hx1 0
    have b1 : w2.cell? ⟨w.heap.size + 1, 1, none⟩ = some (.int .i64 s.do_) := cell_blk hx1 1
    have b2 : w2.cell? ⟨w.heap.size + 1, 2, none⟩ = some (.int .i64 s.key) := cell_blk hx1 2
    have b3 : w2.cell? ⟨w.heap.size + 1, 3, none⟩ = some (.int .i64 s.val) := cell_blk hx1 3
    have t0 : w2.cell? ⟨w.heap.size + 1 + 1, 0, none⟩ = some (.int .i64 t) := cell_blk hx2 0
    clear hx0 hx1 hx2 hz
    refine (g_insert s k' ls ds er RS.out E1.out).mono ?_
    rintro e w1 ⟨aA, cA, aB, cB, rfl, ra, rb, hb, oa, ob⟩
    replace c0 := below_cell hb c0
    replace c1 := below_cell hb c1
    replace b0 := below_cell hb b0
    replace b1 := below_cell hb b1
    replace b2 := below_cell hb b2
    replace b3 := below_cell hb b3
    replace t0 := below_cell hb t0
    replace RS := Lib.hid (RS.out.below hb)
    replace HB := Lib.hid (HB.out.trans (hb.mono HB.out.size))
    clear hb
    clear ra rb oa ob
    have e_c0 := fun o => below_cell ((Below.refl _ _).alloc (Nat.le_refl w1.heap.size) o) c0
    have e_c1 := fun o => below_cell ((Below.refl _ _).alloc (Nat.le_refl w1.heap.size) o) c1
    have e_b0 := fun o => below_cell ((Below.refl _ _).alloc (Nat.le_refl w1.heap.size) o) b0
    have e_b1 := fun o => below_cell ((Below.refl _ _).alloc (Nat.le_refl w1.heap.size) o) b1
    have e_b2 := fun o => below_cell ((Below.refl _ _).alloc (Nat.le_refl w1.heap.size) o) b2
    have e_b3 := fun o => below_cell ((Below.refl _ _).alloc (Nat.le_refl w1.heap.size) o) b3
    have e_t0 := fun o => below_cell ((Below.refl _ _).alloc (Nat.le_refl w1.heap.size) o) t0
    go_wp2_with fail
    clear e_c0 e_c1 e_b0 e_b1 e_b2 e_b3 e_t0
    refine named_box1 (G := fun W => Calls _ _ _ W _) _ _ _ fun w2 hb hz hx => ?_
    replace c0 := below_cell hb c0
    replace c1 := below_cell hb c1
    replace b0 := below_cell hb b0
    replace b1 := below_cell hb b1
    replace b2 := below_cell hb b2
    replace b3 := below_cell hb b3
    replace t0 := below_cell hb t0
    replace RS := Lib.hid (RS.out.below hb)
    replace HB := Lib.hid (HB.out.trans (hb.mono HB.out.size))
    clear hb
    clear hx hz
    generalize w1.heap.size = X at *
    refine (known_any _).mono ?_
    rintro e w1 ⟨rfl, hb⟩
    replace c0 := below_cell hb c0
    replace c1 := below_cell hb c1
    replace b0 := below_cell hb b0
    replace b1 := below_cell hb b1
    replace b2 := below_cell hb b2
    replace b3 := below_cell hb b3
    replace t0 := below_cell hb t0
    replace RS := Lib.hid (RS.out.below hb)
    replace HB := Lib.hid (HB.out.trans (hb.mono HB.out.size))
    clear hb
    go_wp2
    go_ret
    exact ⟨rfl, HB.out⟩
  · obtain rfl : er = 0 := Classical.not_not.1 her
    have hI : isLineP k l = true ∧ isStepP k s = true ∧ hasP l s.at_ = false ∧ l.length < 60 ∧ k' = k ∧ ls = withP l s ∧ ds = diffOf k l (withP l s) := by
      have h1 := he
      unfold insertP at h1
      split at h1
      · rename_i hc
        simp only [Bool.and_eq_true] at hc
        split at h1
        · simp at h1
        · rename_i hh
          split at h1
          · simp at h1
          · rename_i h60
            simp only [Prod.mk.injEq] at h1
            have := (isLineP_spec hc.1).2.2.1
            exact ⟨hc.1, hc.2, by simpa using hh, by omega, h1.1.1.symm, h1.1.2.symm, h1.2.1.symm⟩
      · simp at h1
    obtain ⟨hl, hst, hh, h60, rfl, rfl, hds⟩ := hI
    obtain ⟨m, hm⟩ : ∃ m, m = withP l s := ⟨_, rfl⟩
    have hlm : isLineP k' m = true := by rw [hm]; exact isLineP_with hl hst hh h60
    have hml : m.length ≤ 60 := (isLineP_spec hlm).2.2.1
    have hWI := fun h0 h1 => spans_within (k := k') (lines_time hl hlm) (t := t) h0 h1
    have hFB : t < s.at_ → thereP k' m t = thereP k' l t := fun h => by rw [hm]; exact one_before h
    have hPU : k' ≠ 3 → (s.do_ = 1 → putP (thereP k' l t) (thereP k' m t)) ∧ (s.do_ ≠ 1 → putP (thereP k' m t) (thereP k' l t)) := fun h3 => by
      have hk := isLineP_spec hl
      have hk12 : k' = 1 ∨ k' = 2 := by omega
      rw [hm]
      exact ⟨fun h => putP_of ((one_put hk12).1 h), fun h => putP_of ((one_put hk12).2 h)⟩
    have hOS : k' = 3 → ds = [] ∨ ds = [⟨s.at_, nextP s.key s.at_ l - 1⟩] := fun h3 => by subst h3; rw [hds]; exact one_spans hl hst hh
    have hOO : k' = 3 → (thereP k' l t).filter (fun p => !(p.key == s.key)) = (thereP k' m t).filter (fun p => !(p.key == s.key)) := fun h3 => by subst h3; rw [hm]; exact one_others l s
    have hlP : (thereP k' l t).length ≤ 60 := by rw [thereP, List.length_map]; have := runP_length k' t l l.length; rw [List.take_length] at this; omega
    have hlQ : (thereP k' m t).length ≤ 60 := by rw [thereP, List.length_map]; have := runP_length k' t m m.length; rw [List.take_length] at this; omega
    have hNX : 0 ≤ nextP s.key s.at_ l ∧ nextP s.key s.at_ l ≤ 1001 := by
      rcases next_or (K := s.key) (t := s.at_) l with h | ⟨z, hz, _, _, h⟩
      · omega
      · have := (isStep_do ((isLineP_spec hl).2.2.2.1 z hz)).2; omega
    have NX := Lib.hid hNX
    clear hNX
    rw [← hm] at hds E1
    rw [← hds] at hWI
    have hdo := (isStep_do hst).1
    have hat := (isStep_do hst).2
    have hHW : ∀ W, Rd Step.cells 4 W (.slice a l.length c) l → Calls Try.prog 47 #[.agg #[.int .i64 k', .slice a l.length c], .agg #[.int .i64 s.at_, .int .i64 s.do_, .int .i64 s.key, .int .i64 s.val]] W fun e w' => ∃ aW cW, e = .returned (.agg #[.int .i64 k', .slice aW m.length cW]) ∧ Rd Step.cells 4 w' (.slice aW m.length cW) m ∧ Below W.heap.size W w' := fun W h => (with_any k' _ l s W h (by omega) HOK.out).mono fun e w' ⟨v', h1, h2, h3⟩ => by
      rw [← hm] at h2
      obtain ⟨aW, cW, rfl, hrd⟩ := win_out step_len h2 rfl _ rfl
      exact ⟨aW, cW, h1, hrd, h3⟩
    have HW := Lib.hid hHW
    have WI := Lib.hid hWI
    have FB := Lib.hid hFB
    have PU := Lib.hid hPU
    have OS := Lib.hid hOS
    have OO := Lib.hid hOO
    have LI := Lib.hid (isLineP_spec hl)
    have G1 := Lib.hid (fun W v (h : Rd Step.cells 4 W v l) => by have := good_any k' v l W h; rwa [hl] at this)
    have A1 := Lib.hid (fun t => show atP k' l t = (thereP k' l t, 0) by simp [atP, hl])
    have A2 := Lib.hid (fun t => show atP k' m t = (thereP k' m t, 0) by simp [atP, hlm])
    have HDO := Lib.hid hdo
    have HAT := Lib.hid hat
    have hll : l.length ≤ 60 := by omega
    clear hWI hFB hPU hOS hOO hHW hds hm hlm hl hst hh he her hdo hat
    have EQC := Lib.hid (fun W v1 v2 h1 h2 => equalPairs_any v1 v2 (thereP k' l t) (thereP k' m t) W h1 h2)
    obtain ⟨P, hP⟩ : ∃ P, P = thereP k' l t := ⟨_, rfl⟩
    obtain ⟨Q, hQ⟩ : ∃ Q, Q = thereP k' m t := ⟨_, rfl⟩
    have A1t := Lib.hid (show atP k' l t = (P, 0) by rw [hP]; exact A1.out t)
    have A2t := Lib.hid (show atP k' m t = (Q, 0) by rw [hQ]; exact A2.out t)
    rw [← hP, ← hQ] at WI FB PU OO EQC
    rw [← hP] at hlP
    rw [← hQ] at hlQ
    clear hP hQ A1 A2
    
    refine (callsIn_wide (n := 3)).1 ?_
    refine callsIn_of_wp_marks Try.func13 rfl trivial ?_ rfl
    simp only [Try.ntmps13, List.size_toArray, List.length_cons, List.length_nil, Nat.reduceAdd, Nat.reduceSub, Array.replicate_succ, Array.replicate_zero, List.push_toArray, List.append_toArray, List.nil_append, List.cons_append]
    refine wpIn_wide.2 ?_
    go_wp2_with fail
    refine named_box3 (G := fun W => Calls _ _ _ W _) w _ _ _ _ _ _ fun w2 hb hz hx0 hx1 hx2 => ?_
    replace RS := Lib.hid (RS.out.below hb)
    replace HB := Lib.hid (HB.out.trans (hb.mono HB.out.size))
    clear hb
    have c0 : w2.cell? ⟨w.heap.size, 0, none⟩ = some (.int .i64 k') := cell_blk hx0 0
    have c1 : w2.cell? ⟨w.heap.size, 1, none⟩ = some (.slice a l.length c) := cell_blk hx0 1
    have b0 : w2.cell? ⟨w.heap.size + 1, 0, none⟩ = some (.int .i64 s.at_) := cell_blk hx1 0
    have b1 : w2.cell? ⟨w.heap.size + 1, 1, none⟩ = some (.int .i64 s.do_) := cell_blk hx1 1
    have b2 : w2.cell? ⟨w.heap.size + 1, 2, none⟩ = some (.int .i64 s.key) := cell_blk hx1 2
    have b3 : w2.cell? ⟨w.heap.size + 1, 3, none⟩ = some (.int .i64 s.val) := cell_blk hx1 3
    have t0 : w2.cell? ⟨w.heap.size + 1 + 1, 0, none⟩ = some (.int .i64 t) := cell_blk hx2 0
    clear hx0 hx1 hx2 hz
    refine (g_insert s k' m ds 0 RS.out E1.out).mono ?_
    rintro e w1 ⟨aA, cA, aB, cB, rfl, ra, rb, hb, oa, ob⟩
    replace c0 := below_cell hb c0
    replace c1 := below_cell hb c1
    replace b0 := below_cell hb b0
    replace b1 := below_cell hb b1
    replace b2 := below_cell hb b2
    replace b3 := below_cell hb b3
    replace t0 := below_cell hb t0
    replace RS := Lib.hid (RS.out.below hb)
    replace HB := Lib.hid (HB.out.trans (hb.mono HB.out.size))
    clear hb
    have RA := Lib.hid ra
    clear ra
    have RD := Lib.hid rb
    clear rb
    clear oa ob
    have e_c0 := fun o => below_cell ((Below.refl _ _).alloc (Nat.le_refl w1.heap.size) o) c0
    have e_c1 := fun o => below_cell ((Below.refl _ _).alloc (Nat.le_refl w1.heap.size) o) c1
    have e_b0 := fun o => below_cell ((Below.refl _ _).alloc (Nat.le_refl w1.heap.size) o) b0
    have e_b1 := fun o => below_cell ((Below.refl _ _).alloc (Nat.le_refl w1.heap.size) o) b1
    have e_b2 := fun o => below_cell ((Below.refl _ _).alloc (Nat.le_refl w1.heap.size) o) b2
    have e_b3 := fun o => below_cell ((Below.refl _ _).alloc (Nat.le_refl w1.heap.size) o) b3
    have e_t0 := fun o => below_cell ((Below.refl _ _).alloc (Nat.le_refl w1.heap.size) o) t0
    go_wp2_with fail
    clear e_c0 e_c1 e_b0 e_b1 e_b2 e_b3 e_t0
    refine named_box1 (G := fun W => Calls _ _ _ W _) _ _ _ fun w2 hb hz hx => ?_
    replace c0 := below_cell hb c0
    replace c1 := below_cell hb c1
    replace b0 := below_cell hb b0
    replace b1 := below_cell hb b1
    replace b2 := below_cell hb b2
    replace b3 := below_cell hb b3
    replace t0 := below_cell hb t0
    replace RS := Lib.hid (RS.out.below hb)
    replace RA := Lib.hid (RA.out.below hb)
    replace RD := Lib.hid (RD.out.below hb)
    replace HB := Lib.hid (HB.out.trans (hb.mono HB.out.size))
    clear hb
    have d0 : w2.cell? ⟨w1.heap.size, 0, none⟩ = some (.int .i64 k') := cell_blk hx 0
    have d1 : w2.cell? ⟨w1.heap.size, 1, none⟩ = some (.slice aA m.length cA) := cell_blk hx 1
    clear hx hz
    generalize w1.heap.size = X at *
    refine (G1.out _ _ RS.out).mono ?_
    rintro e w1 ⟨rfl, hb⟩
    replace c0 := below_cell hb c0
    replace c1 := below_cell hb c1
    replace b0 := below_cell hb b0
    replace b1 := below_cell hb b1
    replace b2 := below_cell hb b2
    replace b3 := below_cell hb b3
    replace t0 := below_cell hb t0
    replace d0 := below_cell hb d0
    replace d1 := below_cell hb d1
    replace RS := Lib.hid (RS.out.below hb)
    replace RA := Lib.hid (RA.out.below hb)
    replace RD := Lib.hid (RD.out.below hb)
    replace HB := Lib.hid (HB.out.trans (hb.mono HB.out.size))
    clear hb
    go_upto_region 4 with (fail)
    have H4 := HB
    obtain ⟨w4, hw4⟩ : ∃ y : World, y = w1 := ⟨_, rfl⟩
    go_cut [41] from 36 (fun v W => v = .bool false ∧ Below w1.heap.size w1 W)
    case first =>
      clear HB
      have HB := Lib.hid (Below.refl w1.heap.size w1)
      have hb : Below w1.heap.size w1 w1.drew := (Below.refl _ _).drew
      replace c0 := below_cell hb c0
      replace c1 := below_cell hb c1
      replace b0 := below_cell hb b0
      replace b1 := below_cell hb b1
      replace b2 := below_cell hb b2
      replace b3 := below_cell hb b3
      replace t0 := below_cell hb t0
      replace d0 := below_cell hb d0
      replace d1 := below_cell hb d1
      replace RS := Lib.hid (RS.out.below hb)
      replace RA := Lib.hid (RA.out.below hb)
      replace RD := Lib.hid (RD.out.below hb)
      replace HB := Lib.hid (HB.out.trans (hb.mono HB.out.size))
      clear hb
      go_region_held3 (fun W => W.cell? ⟨w.heap.size, 0, none⟩ = some (.int .i64 k') ∧ W.cell? ⟨w.heap.size, 1, none⟩ = some (.slice a l.length c) ∧ W.cell? ⟨w.heap.size + 1, 0, none⟩ = some (.int .i64 s.at_) ∧ W.cell? ⟨w.heap.size + 1, 1, none⟩ = some (.int .i64 s.do_) ∧ W.cell? ⟨w.heap.size + 1, 2, none⟩ = some (.int .i64 s.key) ∧ W.cell? ⟨w.heap.size + 1, 3, none⟩ = some (.int .i64 s.val) ∧ W.cell? ⟨X, 0, none⟩ = some (.int .i64 k') ∧ W.cell? ⟨X, 1, none⟩ = some (.slice aA m.length cA)) (first | exact ⟨c0, c1, b0, b1, b2, b3, d0, d1⟩ | go_keep) ((first | (go_at_call 47; ((with_reducible refine (HW.out _ RS.out).mono ?_)); rintro _ wK ⟨aW, cW, rfl, rw0, hb⟩; (first | (have hb2 := hb; replace c0 := below_cell hb2 c0; replace c1 := below_cell hb2 c1; replace b0 := below_cell hb2 b0; replace b1 := below_cell hb2 b1; replace b2 := below_cell hb2 b2; replace b3 := below_cell hb2 b3; replace t0 := below_cell hb2 t0; replace d0 := below_cell hb2 d0; replace d1 := below_cell hb2 d1; replace RS := Lib.hid (RS.out.below hb2); replace RA := Lib.hid (RA.out.below hb2); replace RD := Lib.hid (RD.out.below hb2); replace HB := Lib.hid (HB.out.trans (hb2.mono HB.out.size)); clear hb2 hb) | (have hb2 := ((Below.refl _ _).alloc (Nat.le_refl _) _).trans (hb.mono (by simp)); replace c0 := below_cell hb2 c0; replace c1 := below_cell hb2 c1; replace b0 := below_cell hb2 b0; replace b1 := below_cell hb2 b1; replace b2 := below_cell hb2 b2; replace b3 := below_cell hb2 b3; replace t0 := below_cell hb2 t0; replace d0 := below_cell hb2 d0; replace d1 := below_cell hb2 d1; replace RS := Lib.hid (RS.out.below hb2); replace RA := Lib.hid (RA.out.below hb2); replace RD := Lib.hid (RD.out.below hb2); replace HB := Lib.hid (HB.out.trans (hb2.mono HB.out.size)); clear hb2 hb)); have RW := Lib.hid rw0; clear rw0) | (go_at_call 24; ((with_reducible refine (k_same RA.out RW.out).mono ?_)); rintro _ wK ⟨rfl, hb⟩; (first | (have hb2 := hb; replace c0 := below_cell hb2 c0; replace c1 := below_cell hb2 c1; replace b0 := below_cell hb2 b0; replace b1 := below_cell hb2 b1; replace b2 := below_cell hb2 b2; replace b3 := below_cell hb2 b3; replace t0 := below_cell hb2 t0; replace d0 := below_cell hb2 d0; replace d1 := below_cell hb2 d1; replace RS := Lib.hid (RS.out.below hb2); replace RA := Lib.hid (RA.out.below hb2); replace RD := Lib.hid (RD.out.below hb2); replace RW := Lib.hid (RW.out.below hb2); replace HB := Lib.hid (HB.out.trans (hb2.mono HB.out.size)); clear hb2 hb) | (have hb2 := ((Below.refl _ _).alloc (Nat.le_refl _) _).trans (hb.mono (by simp)); replace c0 := below_cell hb2 c0; replace c1 := below_cell hb2 c1; replace b0 := below_cell hb2 b0; replace b1 := below_cell hb2 b1; replace b2 := below_cell hb2 b2; replace b3 := below_cell hb2 b3; replace t0 := below_cell hb2 t0; replace d0 := below_cell hb2 d0; replace d1 := below_cell hb2 d1; replace RS := Lib.hid (RS.out.below hb2); replace RA := Lib.hid (RA.out.below hb2); replace RD := Lib.hid (RD.out.below hb2); replace RW := Lib.hid (RW.out.below hb2); replace HB := Lib.hid (HB.out.trans (hb2.mono HB.out.size)); clear hb2 hb))) | fail))
      all_goals (go_wp2; go_meet; exact ⟨rfl, HB.out⟩)
    case rest =>
      obtain ⟨rfl, hb⟩ := hcut
      obtain ⟨w1, rfl⟩ : ∃ y : World, y = wc := ⟨wc, rfl⟩
      replace c0 := below_cell hb c0
      replace c1 := below_cell hb c1
      replace b0 := below_cell hb b0
      replace b1 := below_cell hb b1
      replace b2 := below_cell hb b2
      replace b3 := below_cell hb b3
      replace t0 := below_cell hb t0
      replace d0 := below_cell hb d0
      replace d1 := below_cell hb d1
      replace RS := Lib.hid (RS.out.below hb)
      replace RA := Lib.hid (RA.out.below hb)
      replace RD := Lib.hid (RD.out.below hb)
      replace HB := Lib.hid (HB.out.trans (hb.mono HB.out.size))
      clear hb
      go_wp2_with fail
      refine (g_atw t P 0 RS.out A1t.out).mono ?_
      rintro e w1 ⟨aP, cP, rfl, rp, hnp, hb⟩
      replace c0 := below_cell hb c0
      replace c1 := below_cell hb c1
      replace b0 := below_cell hb b0
      replace b1 := below_cell hb b1
      replace b2 := below_cell hb b2
      replace b3 := below_cell hb b3
      replace t0 := below_cell hb t0
      replace d0 := below_cell hb d0
      replace d1 := below_cell hb d1
      replace RS := Lib.hid (RS.out.below hb)
      replace RA := Lib.hid (RA.out.below hb)
      replace RD := Lib.hid (RD.out.below hb)
      replace HB := Lib.hid (HB.out.trans (hb.mono HB.out.size))
      clear hb
      have RP := Lib.hid rp
      clear rp
      go_wp2_with fail
      refine (g_atw t Q 0 RA.out A2t.out).mono ?_
      rintro e w1 ⟨aQ, cQ, rfl, rq, hnq, hb⟩
      replace c0 := below_cell hb c0
      replace c1 := below_cell hb c1
      replace b0 := below_cell hb b0
      replace b1 := below_cell hb b1
      replace b2 := below_cell hb b2
      replace b3 := below_cell hb b3
      replace t0 := below_cell hb t0
      replace d0 := below_cell hb d0
      replace d1 := below_cell hb d1
      replace RS := Lib.hid (RS.out.below hb)
      replace RA := Lib.hid (RA.out.below hb)
      replace RD := Lib.hid (RD.out.below hb)
      replace RP := Lib.hid (RP.out.below hb)
      replace HB := Lib.hid (HB.out.trans (hb.mono HB.out.size))
      clear hb
      have RQ := Lib.hid rq
      clear rq
      have HCF := Lib.hid (spans_has 48 (.pointer (some ⟨w.heap.size + 1 + 1, 0, none⟩)) (inSpan t) _ ds w1 RD.out (enters_of Try.func48 (by kernel_rfl) rfl) (fun W x hx hW => inOne_any x.from_ x.to_ t _ W (below_cell hW t0)))
      obtain ⟨g, hg⟩ : ∃ g, g = ds.any (inSpan t) := ⟨_, rfl⟩
      rw [← hg] at HCF WI
      clear hg
      go_wp2_with fail
      refine (HCF.out).mono ?_
      rintro e w1 ⟨rfl, hb⟩
      replace c0 := below_cell hb c0
      replace c1 := below_cell hb c1
      replace b0 := below_cell hb b0
      replace b1 := below_cell hb b1
      replace b2 := below_cell hb b2
      replace b3 := below_cell hb b3
      replace t0 := below_cell hb t0
      replace d0 := below_cell hb d0
      replace d1 := below_cell hb d1
      replace RS := Lib.hid (RS.out.below hb)
      replace RA := Lib.hid (RA.out.below hb)
      replace RD := Lib.hid (RD.out.below hb)
      replace RP := Lib.hid (RP.out.below hb)
      replace RQ := Lib.hid (RQ.out.below hb)
      replace HB := Lib.hid (HB.out.trans (hb.mono HB.out.size))
      clear hb
      clear HCF
      go_upto_region 9 with (fail)
      go_cut [89] from 57 (fun v W => v = .bool false ∧ Below w1.heap.size w1 W)
      case first =>
        clear HB
        have HB := Lib.hid (Below.refl w1.heap.size w1)
        by_cases hA : t < s.at_
        · skip
          have EQ1 := Lib.hid (show decide (P = Q) = true from decide_eq_true (FB.out hA).symm)
          go_wp2_with fail
          refine (EQC.out _ _ _ RP.out RQ.out).mono ?_
          rintro e w1 ⟨rfl, hb⟩
          replace c0 := below_cell hb c0
          replace c1 := below_cell hb c1
          replace b0 := below_cell hb b0
          replace b1 := below_cell hb b1
          replace b2 := below_cell hb b2
          replace b3 := below_cell hb b3
          replace t0 := below_cell hb t0
          replace d0 := below_cell hb d0
          replace d1 := below_cell hb d1
          replace RS := Lib.hid (RS.out.below hb)
          replace RA := Lib.hid (RA.out.below hb)
          replace RD := Lib.hid (RD.out.below hb)
          replace RP := Lib.hid (RP.out.below hb)
          replace RQ := Lib.hid (RQ.out.below hb)
          replace HB := Lib.hid (HB.out.trans (hb.mono HB.out.size))
          clear hb
          rw [EQ1.out]
          by_cases h0 : 0 ≤ t
          · skip
            by_cases h1 : t ≤ 1000
            · skip
              have hg : g = false := by have := WI.out h0 h1; rw [EQ1.out] at this; exact this
              subst hg
              go_wp2_with fail
              refine (EQC.out _ _ _ RP.out RQ.out).mono ?_
              rintro e w1 ⟨rfl, hb⟩
              replace c0 := below_cell hb c0
              replace c1 := below_cell hb c1
              replace b0 := below_cell hb b0
              replace b1 := below_cell hb b1
              replace b2 := below_cell hb b2
              replace b3 := below_cell hb b3
              replace t0 := below_cell hb t0
              replace d0 := below_cell hb d0
              replace d1 := below_cell hb d1
              replace RS := Lib.hid (RS.out.below hb)
              replace RA := Lib.hid (RA.out.below hb)
              replace RD := Lib.hid (RD.out.below hb)
              replace RP := Lib.hid (RP.out.below hb)
              replace RQ := Lib.hid (RQ.out.below hb)
              replace HB := Lib.hid (HB.out.trans (hb.mono HB.out.size))
              clear hb
              rw [EQ1.out]
              go_wp2
              go_meet
              exact ⟨rfl, HB.out⟩
            · skip
              go_wp2
              go_meet
              exact ⟨rfl, HB.out⟩
          · skip
            go_wp2
            go_meet
            exact ⟨rfl, HB.out⟩
        · skip
          by_cases h0 : 0 ≤ t
          · skip
            by_cases h1 : t ≤ 1000
            · skip
              have hg := WI.out h0 h1
              obtain ⟨q, hq⟩ : ∃ q, q = decide (P = Q) := ⟨_, rfl⟩
              rw [← hq] at hg
              have HQ := Lib.hid hq.symm
              subst hg
              clear hq
              go_wp2_with fail
              refine (EQC.out _ _ _ RP.out RQ.out).mono ?_
              rintro e w1 ⟨rfl, hb⟩
              replace c0 := below_cell hb c0
              replace c1 := below_cell hb c1
              replace b0 := below_cell hb b0
              replace b1 := below_cell hb b1
              replace b2 := below_cell hb b2
              replace b3 := below_cell hb b3
              replace t0 := below_cell hb t0
              replace d0 := below_cell hb d0
              replace d1 := below_cell hb d1
              replace RS := Lib.hid (RS.out.below hb)
              replace RA := Lib.hid (RA.out.below hb)
              replace RD := Lib.hid (RD.out.below hb)
              replace RP := Lib.hid (RP.out.below hb)
              replace RQ := Lib.hid (RQ.out.below hb)
              replace HB := Lib.hid (HB.out.trans (hb.mono HB.out.size))
              clear hb
              rw [HQ.out]
              cases q
              · skip
                go_wp2
                go_meet
                exact ⟨rfl, HB.out⟩
              · skip
                go_wp2
                go_meet
                exact ⟨rfl, HB.out⟩
            · skip
              go_wp2
              go_meet
              exact ⟨rfl, HB.out⟩
          · skip
            go_wp2
            go_meet
            exact ⟨rfl, HB.out⟩
      case rest =>
        obtain ⟨rfl, hb⟩ := hcut
        obtain ⟨w1, rfl⟩ : ∃ y : World, y = wc := ⟨wc, rfl⟩
        replace c0 := below_cell hb c0
        replace c1 := below_cell hb c1
        replace b0 := below_cell hb b0
        replace b1 := below_cell hb b1
        replace b2 := below_cell hb b2
        replace b3 := below_cell hb b3
        replace t0 := below_cell hb t0
        replace d0 := below_cell hb d0
        replace d1 := below_cell hb d1
        replace RS := Lib.hid (RS.out.below hb)
        replace RA := Lib.hid (RA.out.below hb)
        replace RD := Lib.hid (RD.out.below hb)
        replace RP := Lib.hid (RP.out.below hb)
        replace RQ := Lib.hid (RQ.out.below hb)
        replace HB := Lib.hid (HB.out.trans (hb.mono HB.out.size))
        clear hb
        by_cases h3 : k' = 3
        · skip
          subst h3
          have OS2 := Lib.hid (OS.out rfl)
          have OO2 := Lib.hid (OO.out rfl)
          clear OS OO PU FB WI EQC HW G1 LI A1t A2t E1
          have e_c1 := fun o => below_cell ((Below.refl _ _).alloc (Nat.le_refl w1.heap.size) o) c1
          have hN2 : w.heap.size + 1 + 1 < w1.heap.size := World.block_lt_of_cell? w1 _ t0
          have hXN : X < w1.heap.size := World.block_lt_of_cell? w1 _ d0
          have HOW := Lib.hid (show ∀ i, some i = (Value.slice a l.length c).ownBlock → l = [] ∨ i < w1.heap.size from fun i hi => by
            rcases Nat.eq_zero_or_pos l.length with h0 | h0
            · exact .inl (List.eq_nil_of_length_eq_zero h0)
            · obtain ⟨_, a', c', he, hh⟩ := RS.out
              obtain ⟨b, off, rfl, hb, _⟩ := hh h0
              injection he with he1
              subst he1
              simp [Value.ownBlock] at hi
              exact .inr (hi ▸ hb))
          have HB2 := Lib.hid (Below.refl w1.heap.size w1)
          have KEEP := Lib.hid (fun W (hb : Below w1.heap.size w1 W) => And.intro (below_cell hb b0) (And.intro (below_cell hb b2) (And.intro (RD.out.below hb) (And.intro (RP.out.below hb) (And.intro (RQ.out.below hb) (HB.out.below hb))))))
          go_wp2_with fail
          clear e_c1
          refine named_box1 (G := fun W => Calls _ _ _ W _) _ _ _ fun w2 hb hz hx => ?_
          replace c0 := below_cell hb c0
          replace c1 := below_cell hb c1
          replace b0 := below_cell hb b0
          replace b1 := below_cell hb b1
          replace b2 := below_cell hb b2
          replace b3 := below_cell hb b3
          replace t0 := below_cell hb t0
          replace d0 := below_cell hb d0
          replace d1 := below_cell hb d1
          replace RS := Lib.hid (RS.out.below hb)
          replace RA := Lib.hid (RA.out.below hb)
          replace RD := Lib.hid (RD.out.below hb)
          replace RP := Lib.hid (RP.out.below hb)
          replace RQ := Lib.hid (RQ.out.below hb)
          replace HB2 := Lib.hid (HB2.out.below hb)
          replace HB := Lib.hid (HB.out.trans (hb.mono HB.out.size))
          clear hb
          have n0 : w2.cell? ⟨w1.heap.size, 0, none⟩ = some (.int .i64 1001) := cell_blk hx 0
          have nf := free_blk hx 0
          clear hx
          refine (back_any _ _ _ _).mono ?_
          rintro e w3 ⟨rfl, rfl⟩
          go_wp2
          refine (wpIn_wide (n := 3)).1 ?_
          refine named_box1 w2 _ _ fun Wp hbp hzp hx0 => ?_
          refine range_wide (by rfl) (enters_of Try.func77 (by kernel_rfl) rfl) ?_
          intro fn W1 hbW hzW hD hL1
          generalize w1.heap.size = N at *
          have hz2a := Nat.le_of_eq hz
          have hz2b := Nat.le_of_eq hz.symm
          have hzpa := Nat.le_of_eq hzp
          have hzpb := Nat.le_of_eq hzp.symm
          have hzWa := Nat.le_of_eq hzW
          have hzWb := Nat.le_of_eq hzW.symm
          obtain ⟨REC, hREC, hL2⟩ : ∃ REC, REC = _ ∧ W1.heap[Wp.heap.size + 1]? = some (.loop REC) := ⟨_, rfl, hL1⟩
          have bx := cell_blk ((hbW.block w2.heap.size (by omega)).trans hx0) 0
          rw [hz] at bx
          clear hL1 hz hzp hzW hx0
          have hb : Below w2.heap.size w2 W1 := hbp.trans (hbW.mono (by omega))
          have nf := below_frozen hb (a := ⟨N, 0, none⟩) (by show N < _; omega) nf
          obtain ⟨w1, rfl⟩ : ∃ y : World, y = W1 := ⟨W1, rfl⟩
          replace HB2 := Lib.hid (HB2.out.trans (hb.mono (by omega)))
          replace c0 := below_cell hb c0
          replace c1 := below_cell hb c1
          replace b0 := below_cell hb b0
          replace b1 := below_cell hb b1
          replace b2 := below_cell hb b2
          replace b3 := below_cell hb b3
          replace t0 := below_cell hb t0
          replace d0 := below_cell hb d0
          replace d1 := below_cell hb d1
          replace n0 := below_cell hb n0
          replace RS := Lib.hid (RS.out.below hb)
          replace RA := Lib.hid (RA.out.below hb)
          replace RD := Lib.hid (RD.out.below hb)
          replace RP := Lib.hid (RP.out.below hb)
          replace RQ := Lib.hid (RQ.out.below hb)
          replace HB := Lib.hid (HB.out.trans (hb.mono HB.out.size))
          clear hb
          clear hbp hbW
          obtain ⟨J, hJ⟩ : ∃ J : Nat → World → Prop, ∀ i W, J i W ↔ W.cell? ⟨N, 0, none⟩ = some (.int .i64 (nextP s.key s.at_ (l.drop i))) ∧ W.frozen? ⟨N, 0, none⟩ = false ∧ W.heap[Wp.heap.size + 1]? = some (.loop REC) ∧ W.heap[Wp.heap.size]? = some (.deferred (some [])) := ⟨_, fun _ _ => Iff.rfl⟩
          refine (back1_in 1 (Wp.heap.size + 1) (N + 1) a c l (by omega) w1 (fun j => j = N ∨ j = Wp.heap.size + 1) J bx RS.out (fun h => by rcases h with h | h <;> omega) (fun i hi => (HOW.out i hi).imp id fun h h2 => by rcases h2 with h2 | h2 <;> omega) ((hJ _ _).2 ⟨by rw [List.drop_length]; exact n0, nf, hL2, hD⟩) ?_).mono ?_
          · rintro i z W hx hj hF
            obtain ⟨j1, j2, j3, j4⟩ := (hJ _ _).1 hj
            have hFs := hF.size
            have y0 := fr_cell hF b0 (fun h => by rcases h with h | h <;> (have h : w.heap.size + 1 = _ := h; omega))
            have y2 := fr_cell hF b2 (fun h => by rcases h with h | h <;> (have h : w.heap.size + 1 = _ := h; omega))
            have HJI := Lib.hid hJ
            clear hj hJ
            refine yield_wide j3 (by rw [hREC]; rfl) ?_
            have HJ := Lib.hid (And.intro j3 (And.intro j4 (And.intro hREC (And.intro hx hF))))
            have hil : i < l.length := (List.getElem?_eq_some_iff.1 hx).1
            have hnx := Lib.hid (nextP_drop (K := s.key) (t := s.at_) hx)
            clear j3 j4 hx hD hL2 hF bx n0 nf c0 c1 b0 b1 b2 b3 t0 d0 d1 RS RA RD RP RQ
            rw [hREC]
            simp only [List.zip_toArray, List.zip_cons_cons, List.zip_nil_left, List.zip_nil_right, List.foldl_toArray, List.foldl_cons, List.foldl_nil, List.setIfInBounds_toArray, List.set_cons_succ, List.set_cons_zero]
            gi_wp2
            generalize hWq : W.alloc _ = Wq
            obtain ⟨hbq, hzq, hy⟩ : Below W.heap.size W Wq ∧ Wq.heap.size = W.heap.size + 1 ∧ Wq.heap[W.heap.size]? = some (.cells #[.int .i64 z.at_, .int .i64 z.do_, .int .i64 z.key, .int .i64 z.val] 39 (0, 0)) := by
              subst hWq
              exact ⟨(Below.refl _ _).alloc (Nat.le_refl _) _, by simp, heap_alloc_new _ _⟩
            clear hWq
            refine ⟨REC, (hbq.block _ (by omega)).trans HJ.out.1, by rw [HJ.out.2.2.1], ?_⟩
            refine named_put (by omega) fun W2 hF2 hL2 hz2 => ?_
            have hFq : Fr (fun i => i = Wp.heap.size + 1) W W2 := fr_trans (fr_of_below hbq) hF2 fun _ _ h => h
            have o0 := fr_cell hFq j1 (by show ¬ N = _; omega)
            have of0 := fr_frozen hFq (by show N < _; omega) j2 (by show ¬ N = _; omega)
            have z0 : W2.cell? ⟨W.heap.size, 0, none⟩ = some (.int .i64 z.at_) := fr_cell hF2 (cell_blk hy 0) (by show ¬ W.heap.size = _; omega)
            have z1 : W2.cell? ⟨W.heap.size, 1, none⟩ = some (.int .i64 z.do_) := fr_cell hF2 (cell_blk hy 1) (by show ¬ W.heap.size = _; omega)
            have z2 : W2.cell? ⟨W.heap.size, 2, none⟩ = some (.int .i64 z.key) := fr_cell hF2 (cell_blk hy 2) (by show ¬ W.heap.size = _; omega)
            have z3 : W2.cell? ⟨W.heap.size, 3, none⟩ = some (.int .i64 z.val) := fr_cell hF2 (cell_blk hy 3) (by show ¬ W.heap.size = _; omega)
            have a0 := fr_cell hFq y0 (by show ¬ w.heap.size + 1 = _; omega)
            have a2 := fr_cell hFq y2 (by show ¬ w.heap.size + 1 = _; omega)
            have hzq1 : W.heap.size + 1 ≤ W2.heap.size := by omega
            have HQ := Lib.hid (And.intro hFq (And.intro hL2 HJ.out.2.2.1))
            clear hbq hy hF2 hL2 hFq hREC j1 j2 hzq hz2 y0 y2
            have quiet : ¬ (z.key = s.key ∧ s.at_ < z.at_) → Hid (∀ (R : Ending → World → Prop) (aa : Act), (∀ W5, J i W5 → Fr (fun j => (j = N ∨ j = Wp.heap.size + 1) ∨ w1.heap.size ≤ j) W W5 → R (.returned (.bool true)) W5) → roundPost Try.prog (Wp.heap.size + 1) R .normal aa W2) := fun hn => Lib.hid fun R aa hR => by
              refine round_end HQ.out.2.1 fun W5 hF5 hL5 hz5 => ?_
              have hF45 : Fr (fun j => j = Wp.heap.size + 1) W W5 := fr_trans HQ.out.1 hF5 fun i _ h => h
              refine hR W5 ((HJI.out _ _).2 ⟨?_, fr_frozen hF5 (by show N < _; omega) of0 (by show ¬ N = _; omega), hL5.trans (by rw [HQ.out.2.2]), (hF45.block Wp.heap.size (by omega) (by omega)).trans HJ.out.2.1⟩) (fr_mono hF45 fun j h => .inl (.inr h))
              rw [hnx.out, if_neg hn]
              exact fr_cell hF5 o0 (by show ¬ N = _; omega)
            by_cases hk : z.key = s.key
            · have hkb : (z.key == s.key) = true := by simp [hk]
              by_cases ht : s.at_ < z.at_
              · have HT := Lib.hid (And.intro hk ht)
                have htb : decide (s.at_ < z.at_) = true := decide_eq_true ht
                clear quiet
                gi_wp2
                have o4 := World.cell?_setCell_same W2 _ (.int .i64 z.at_) o0
                have of4 : (W2.setCell ⟨N, 0, none⟩ (.int .i64 z.at_)).frozen? ⟨N, 0, none⟩ = false := (World.frozen?_setCell _ _ _ _).trans of0
                have hF4 : Fr (fun j => j = N) W2 (W2.setCell ⟨N, 0, none⟩ (.int .i64 z.at_)) := fr_setCell W2 ⟨N, 0, none⟩ (.int .i64 z.at_)
                generalize W2.setCell ⟨N, 0, none⟩ (.int .i64 z.at_) = w4 at *
                have hL4 := (hF4.block (Wp.heap.size + 1) (by omega) (by omega)).trans HQ.out.2.1
                have hs4 := hF4.size
                refine round_end hL4 fun W5 hF5 hL5 hz5 => ?_
                have hF45 : Fr (fun j => j = N ∨ j = Wp.heap.size + 1) W W5 := fr_trans (fr_trans (fr_mono HQ.out.1 fun j h => .inr h) hF4 fun j _ h => .inl h) hF5 fun j _ h => .inr h
                refine ⟨rfl, (HJI.out _ _).2 ⟨?_, fr_frozen hF5 (by show N < _; omega) of4 (by show ¬ N = _; omega), hL5.trans (by rw [HQ.out.2.2]), (hF45.block Wp.heap.size (by omega) (fun h => by rcases h with h | h <;> omega)).trans HJ.out.2.1⟩, fr_mono hF45 fun j h => .inl h⟩
                rw [hnx.out, if_pos HT.out]
                exact fr_cell hF5 o4 (by show ¬ N = _; omega)
              · have htb : decide (s.at_ < z.at_) = false := decide_eq_false ht
                have HQ2 := quiet (fun h => ht h.2)
                clear quiet ht
                gi_wp2
                exact HQ2.out _ _ fun W5 h1 h2 => ⟨rfl, h1, h2⟩
            · have hkb : (z.key == s.key) = false := by simp [hk]
              have HQ2 := quiet (fun h => hk h.1)
              clear quiet hk
              gi_wp2
              exact HQ2.out _ _ fun W5 h1 h2 => ⟨rfl, h1, h2⟩
          · rintro e W2 ⟨⟨v2, rfl⟩, hj, hF⟩
            obtain ⟨j1, j2, j3, j4⟩ := (hJ _ _).1 hj
            rw [List.drop_zero] at j1
            clear hj hJ
            refine ⟨_, _, run_endLoop j3 (by rw [hREC]; simp), ?_⟩
            rw [hREC]
            clear hREC hL2 hD n0 nf c0 c1 b0 b1 b2 b3 t0 d0 d1 RS RA RD RP RQ HB bx j2
            dsimp only
            refine named_put (by have := hF.size; omega) fun W5 hF5 hL5 hz5 => ?_
            have hFA : Fr (fun j => j = N ∨ j = Wp.heap.size + 1) w1 W5 := fr_trans hF (fr_mono hF5 fun j h => .inr h) fun _ _ h => h
            have hFs := hFA.size
            have hb := HB2.out.trans (below_of_fr hFA (by omega) fun i hi => by rcases hi with h | h <;> omega)
            obtain ⟨b0, b2, rd, rp, rq, hB⟩ := KEEP.out W5 hb
            have n0 := fr_cell hF5 j1 (by show ¬ N = _; omega)
            have jD := (hF5.block Wp.heap.size (by omega) (by show ¬ Wp.heap.size = _; omega)).trans j4
            have hDl : Wp.heap.size < W5.heap.size := by omega
            have HD5 := Lib.hid jD
            have RD := Lib.hid rd
            have RP := Lib.hid rp
            have RQ := Lib.hid rq
            have HB := Lib.hid hB
            clear rd rp rq hB hb hFA hF5 hF j1 j3 j4 hL5 jD KEEP HB2
            have HB5 := Lib.hid (Below.refl W5.heap.size W5)
            have hW2l : w.heap.size + 1 < W5.heap.size := by omega
            clear hFs hz5
            obtain ⟨w1, rfl⟩ : ∃ y : World, y = W5 := ⟨W5, rfl⟩
            go_wp2_with fail
            refine (clonePairs _ P w1 RP.out (by omega)).mono ?_
            rintro e wA ⟨vA1, rfl, hwA, hbA⟩
            go_wp2_with fail
            refine (delPairs_any 50 (.pointer (some ⟨w.heap.size + 1, 0, none⟩)) (fun p => p.key == s.key) vA1 P _ wA hwA (by omega) (enters_of Try.func50 (by kernel_rfl) rfl) (fun W x hF => keyIs_any x.key x.val s.key _ W (fr_cell hF (below_cell hbA b2) (fun h => by have h2 := (winC_ob hwA _ h).1; have h3 : w1.heap.size ≤ w.heap.size + 1 := h2; have := World.block_lt_of_cell? w1 _ b2; have h4 : w.heap.size + 1 < w1.heap.size := this; omega)))).mono ?_
            rintro e wB ⟨vB1, rfl, rB1, _, fB⟩
            have hb : Below w1.heap.size w1 wB := hbA.trans (below_of_fr fB hbA.size fun i hi => (winC_ob hwA i hi).1)
            clear hwA hbA fB
            obtain ⟨w1, rfl⟩ : ∃ y : World, y = wB := ⟨wB, rfl⟩
            replace b0 := below_cell hb b0
            replace b2 := below_cell hb b2
            replace n0 := below_cell hb n0
            replace RD := Lib.hid (RD.out.below hb)
            replace RP := Lib.hid (RP.out.below hb)
            replace RQ := Lib.hid (RQ.out.below hb)
            replace HB5 := Lib.hid (HB5.out.below hb)
            replace HB := Lib.hid (HB.out.trans (hb.mono HB.out.size))
            clear hb
            have RX1 := Lib.hid rB1
            clear rB1
            go_wp2_with fail
            refine (clonePairs _ Q w1 RQ.out (by omega)).mono ?_
            rintro e wA ⟨vA2, rfl, hwA, hbA⟩
            go_wp2_with fail
            refine (delPairs_any 50 (.pointer (some ⟨w.heap.size + 1, 0, none⟩)) (fun p => p.key == s.key) vA2 Q _ wA hwA (by omega) (enters_of Try.func50 (by kernel_rfl) rfl) (fun W x hF => keyIs_any x.key x.val s.key _ W (fr_cell hF (below_cell hbA b2) (fun h => by have h2 := (winC_ob hwA _ h).1; have h3 : w1.heap.size ≤ w.heap.size + 1 := h2; have := World.block_lt_of_cell? w1 _ b2; have h4 : w.heap.size + 1 < w1.heap.size := this; omega)))).mono ?_
            rintro e wB ⟨vB2, rfl, rB2, _, fB⟩
            have hb : Below w1.heap.size w1 wB := hbA.trans (below_of_fr fB hbA.size fun i hi => (winC_ob hwA i hi).1)
            clear hwA hbA fB
            obtain ⟨w1, rfl⟩ : ∃ y : World, y = wB := ⟨wB, rfl⟩
            replace b0 := below_cell hb b0
            replace b2 := below_cell hb b2
            replace n0 := below_cell hb n0
            replace RD := Lib.hid (RD.out.below hb)
            replace RP := Lib.hid (RP.out.below hb)
            replace RQ := Lib.hid (RQ.out.below hb)
            replace HB5 := Lib.hid (HB5.out.below hb)
            replace RX1 := Lib.hid (RX1.out.below hb)
            replace HB := Lib.hid (HB.out.trans (hb.mono HB.out.size))
            clear hb
            have RX2 := Lib.hid rB2
            clear rB2
            have RX3 : Hid (Rd Pair.cells 2 w1 vB2 (P.filter fun p => !(p.key == s.key))) := Lib.hid (by rw [OO2.out]; exact RX2.out)
            have HEQ := Lib.hid (fun W h1 h2 => k_equalPairs (w := W) (v1 := vB1) (v2 := vB2) (xs := P.filter fun p => !(p.key == s.key)) h1 h2)
            have hwx : IntKind.i64.wrap (nextP s.key s.at_ l - 1) = nextP s.key s.at_ l - 1 := Go.IntWalk.i64_in _ (by have := NX.out; omega)
            clear RX2 RP RQ
            generalize nextP s.key s.at_ l = nx at *
            have hDw : w.heap.size ≤ Wp.heap.size := by omega
            go_upto_region 22 with (fail)
            rcases OS2.out with hds | hds
            · skip
              subst hds
              clear RD
              have hb : Below w1.heap.size w1 w1.drew := (Below.refl _ _).drew
              replace b0 := below_cell hb b0
              replace b2 := below_cell hb b2
              replace n0 := below_cell hb n0
              replace HB5 := Lib.hid (HB5.out.below hb)
              replace RX1 := Lib.hid (RX1.out.below hb)
              replace RX3 := Lib.hid (RX3.out.below hb)
              replace HB := Lib.hid (HB.out.trans (hb.mono HB.out.size))
              clear hb
              simp only [List.length_nil]
              have EQ1 := Lib.hid (enters_of Try.func39 (by kernel_rfl) rfl)
              have EK1 := Lib.hid (enters_of Try.func20 (by kernel_rfl) rfl)
              try refine wp_region_noPanic ?_
              refine wp_region_held_drew (S := fun W => True) (by kernel_rfl) trivial (fun hHeld => ?_)
              set_option maxRecDepth 10000 in
              refine wpAnyH_take (i := 0) (v := ?_) rfl (by kernel_rfl) (by kernel_rfl) (by kernel_rfl) (fun _ _ _ h => h) (Or.inl ⟨by rfl, ?_⟩) (by assumption) ?_
              rotate_left
              · intro w hSw; (try dsimp only at hSw); go_simp; (try with_reducible rfl)
              try simp only [Act.put, List.getElem_toArray, List.getElem_cons_zero, List.getElem_cons_succ, List.setIfInBounds_toArray, List.set_cons_zero, List.set_cons_succ]

              set_option maxRecDepth 10000 in
              refine wpAnyH_take (i := 1) (v := ?_) rfl (by kernel_rfl) (by kernel_rfl) (by kernel_rfl) (fun _ _ _ h => h) (Or.inl ⟨by rfl, ?_⟩) (by assumption) ?_
              rotate_left
              · intro w hSw; (try dsimp only at hSw); go_simp; (try with_reducible rfl)
              try simp only [Act.put, List.getElem_toArray, List.getElem_cons_zero, List.getElem_cons_succ, List.setIfInBounds_toArray, List.set_cons_zero, List.set_cons_succ]

              set_option maxRecDepth 10000 in
              refine wpAnyH_ready (rs := [2]) (by kernel_rfl) (by simp) ?_

              refine AllReadyH.cons rfl (fun K hK => ?_) AllReadyH.nil
              refine step_call (by rfl) 39 _ _ (by rfl) EQ1.out _ (by rfl) (HEQ.out _ RX1.out RX3.out) ?_
              rintro _ wJ ⟨rfl, hb⟩
              refine ⟨_, rfl, ?_⟩
              replace b0 := below_cell hb b0
              replace b2 := below_cell hb b2
              replace n0 := below_cell hb n0
              replace HB5 := Lib.hid (HB5.out.below hb)
              replace RX1 := Lib.hid (RX1.out.below hb)
              replace RX3 := Lib.hid (RX3.out.below hb)
              replace HB := Lib.hid (HB.out.trans (hb.mono HB.out.size))
              clear hb
              refine hK.out _ _ trivial (fun hHeld => ?_)
              clear hK K
              try simp only [Act.put, List.setIfInBounds_toArray, List.set_cons_zero, List.set_cons_succ]
              set_option maxRecDepth 10000 in
              refine wpAnyH_take (i := 3) (v := ?_) rfl (by kernel_rfl) (by kernel_rfl) (by kernel_rfl) (fun _ _ _ h => h) (Or.inl ⟨by rfl, ?_⟩) (by assumption) ?_
              rotate_left
              · intro w hSw; (try dsimp only at hSw); go_simp; (try with_reducible rfl)
              try simp only [Act.put, List.getElem_toArray, List.getElem_cons_zero, List.getElem_cons_succ, List.setIfInBounds_toArray, List.set_cons_zero, List.set_cons_succ]

              set_option maxRecDepth 10000 in
              refine wpAnyH_take (i := 4) (v := ?_) rfl (by kernel_rfl) (by kernel_rfl) (by kernel_rfl) (fun _ _ _ h => h) (Or.inl ⟨by rfl, ?_⟩) (by assumption) ?_
              rotate_left
              · intro w hSw; (try dsimp only at hSw); go_simp; (try with_reducible rfl)
              try simp only [Act.put, List.getElem_toArray, List.getElem_cons_zero, List.getElem_cons_succ, List.setIfInBounds_toArray, List.set_cons_zero, List.set_cons_succ]

              set_option maxRecDepth 10000 in
              refine wpAnyH_take (i := 5) (v := ?_) rfl (by kernel_rfl) (by kernel_rfl) (by kernel_rfl) (fun _ _ _ h => h) (Or.inl ⟨by rfl, ?_⟩) (by assumption) ?_
              rotate_left
              · intro w hSw; (try dsimp only at hSw); go_simp; (try with_reducible rfl)
              try simp only [Act.put, List.getElem_toArray, List.getElem_cons_zero, List.getElem_cons_succ, List.setIfInBounds_toArray, List.set_cons_zero, List.set_cons_succ]

              set_option maxRecDepth 10000 in
              refine wpAnyH_take (i := 6) (v := ?_) rfl (by kernel_rfl) (by kernel_rfl) (by kernel_rfl) (fun _ _ _ h => h) (Or.inl ⟨by rfl, ?_⟩) (by assumption) ?_
              rotate_left
              · intro w hSw; (try dsimp only at hSw); go_simp; (try with_reducible rfl)
              try simp only [Act.put, List.getElem_toArray, List.getElem_cons_zero, List.getElem_cons_succ, List.setIfInBounds_toArray, List.set_cons_zero, List.set_cons_succ]

              set_option maxRecDepth 10000 in
              refine wpAnyH_take (i := 7) (v := ?_) rfl (by kernel_rfl) (by kernel_rfl) (by kernel_rfl) (fun _ _ _ h => h) (Or.inl ⟨by rfl, ?_⟩) (by assumption) ?_
              rotate_left
              · intro w hSw; (try dsimp only at hSw); go_simp; (try with_reducible rfl)
              try simp only [Act.put, List.getElem_toArray, List.getElem_cons_zero, List.getElem_cons_succ, List.setIfInBounds_toArray, List.set_cons_zero, List.set_cons_succ]

              set_option maxRecDepth 10000 in
              refine wpAnyH_take (i := 8) (v := ?_) rfl (by kernel_rfl) (by kernel_rfl) (by kernel_rfl) (fun _ _ _ h => h) (Or.inl ⟨by rfl, ?_⟩) (by assumption) ?_
              rotate_left
              · intro w hSw; (try dsimp only at hSw); go_simp; (try with_reducible rfl)
              try simp only [Act.put, List.getElem_toArray, List.getElem_cons_zero, List.getElem_cons_succ, List.setIfInBounds_toArray, List.set_cons_zero, List.set_cons_succ]

              set_option maxRecDepth 10000 in
              refine wpAnyH_take (i := 9) (v := ?_) rfl (by kernel_rfl) (by kernel_rfl) (by kernel_rfl) (fun _ _ _ h => h) (Or.inl ⟨by rfl, ?_⟩) (by assumption) ?_
              rotate_left
              · intro w hSw; (try dsimp only at hSw); go_simp; (try with_reducible rfl)
              try simp only [Act.put, List.getElem_toArray, List.getElem_cons_zero, List.getElem_cons_succ, List.setIfInBounds_toArray, List.set_cons_zero, List.set_cons_succ]

              set_option maxRecDepth 10000 in
              refine wpAnyH_take (i := 10) (v := ?_) rfl (by kernel_rfl) (by kernel_rfl) (by kernel_rfl) (fun _ _ _ h => h) (Or.inl ⟨by rfl, ?_⟩) (by assumption) ?_
              rotate_left
              · intro w hSw; (try dsimp only at hSw); go_simp; (try with_reducible rfl)
              try simp only [Act.put, List.getElem_toArray, List.getElem_cons_zero, List.getElem_cons_succ, List.setIfInBounds_toArray, List.set_cons_zero, List.set_cons_succ]

              set_option maxRecDepth 10000 in
              refine wpAnyH_take (i := 11) (v := ?_) rfl (by kernel_rfl) (by kernel_rfl) (by kernel_rfl) (fun _ _ _ h => h) (Or.inl ⟨by rfl, ?_⟩) (by assumption) ?_
              rotate_left
              · intro w hSw; (try dsimp only at hSw); go_simp; (try with_reducible rfl)
              try simp only [Act.put, List.getElem_toArray, List.getElem_cons_zero, List.getElem_cons_succ, List.setIfInBounds_toArray, List.set_cons_zero, List.set_cons_succ]

              set_option maxRecDepth 10000 in
              refine wpAnyH_take (i := 12) (v := ?_) rfl (by kernel_rfl) (by kernel_rfl) (by kernel_rfl) (fun _ _ _ h => h) (Or.inl ⟨by rfl, ?_⟩) (by assumption) ?_
              rotate_left
              · intro w hSw; (try dsimp only at hSw); go_simp; (try with_reducible rfl)
              try simp only [Act.put, List.getElem_toArray, List.getElem_cons_zero, List.getElem_cons_succ, List.setIfInBounds_toArray, List.set_cons_zero, List.set_cons_succ]

              set_option maxRecDepth 10000 in
              refine wpAnyH_take (i := 13) (v := undef) rfl (by kernel_rfl) (by kernel_rfl) (by kernel_rfl) (fun _ _ _ h => h) (Or.inr ⟨by rfl, rfl⟩) (by assumption) ?_
              try simp only [Act.put, List.getElem_toArray, List.getElem_cons_zero, List.getElem_cons_succ, List.setIfInBounds_toArray, List.set_cons_zero, List.set_cons_succ]

              set_option maxRecDepth 10000 in
              refine wpAnyH_take (i := 14) (v := undef) rfl (by kernel_rfl) (by kernel_rfl) (by kernel_rfl) (fun _ _ _ h => h) (Or.inr ⟨by rfl, rfl⟩) (by assumption) ?_
              try simp only [Act.put, List.getElem_toArray, List.getElem_cons_zero, List.getElem_cons_succ, List.setIfInBounds_toArray, List.set_cons_zero, List.set_cons_succ]

              set_option maxRecDepth 10000 in
              refine wpAnyH_take (i := 15) (v := undef) rfl (by kernel_rfl) (by kernel_rfl) (by kernel_rfl) (fun _ _ _ h => h) (Or.inr ⟨by rfl, rfl⟩) (by assumption) ?_
              try simp only [Act.put, List.getElem_toArray, List.getElem_cons_zero, List.getElem_cons_succ, List.setIfInBounds_toArray, List.set_cons_zero, List.set_cons_succ]

              set_option maxRecDepth 10000 in
              refine wpAnyH_take (i := 16) (v := undef) rfl (by kernel_rfl) (by kernel_rfl) (by kernel_rfl) (fun _ _ _ h => h) (Or.inr ⟨by rfl, rfl⟩) (by assumption) ?_
              try simp only [Act.put, List.getElem_toArray, List.getElem_cons_zero, List.getElem_cons_succ, List.setIfInBounds_toArray, List.set_cons_zero, List.set_cons_succ]

              set_option maxRecDepth 10000 in
              refine wpAnyH_take (i := 17) (v := undef) rfl (by kernel_rfl) (by kernel_rfl) (by kernel_rfl) (fun _ _ _ h => h) (Or.inr ⟨by rfl, rfl⟩) (by assumption) ?_
              try simp only [Act.put, List.getElem_toArray, List.getElem_cons_zero, List.getElem_cons_succ, List.setIfInBounds_toArray, List.set_cons_zero, List.set_cons_succ]

              set_option maxRecDepth 10000 in
              refine wpAnyH_take (i := 18) (v := undef) rfl (by kernel_rfl) (by kernel_rfl) (by kernel_rfl) (fun _ _ _ h => h) (Or.inr ⟨by rfl, rfl⟩) (by assumption) ?_
              try simp only [Act.put, List.getElem_toArray, List.getElem_cons_zero, List.getElem_cons_succ, List.setIfInBounds_toArray, List.set_cons_zero, List.set_cons_succ]

              set_option maxRecDepth 10000 in
              refine wpAnyH_take (i := 19) (v := undef) rfl (by kernel_rfl) (by kernel_rfl) (by kernel_rfl) (fun _ _ _ h => h) (Or.inr ⟨by rfl, rfl⟩) (by assumption) ?_
              try simp only [Act.put, List.getElem_toArray, List.getElem_cons_zero, List.getElem_cons_succ, List.setIfInBounds_toArray, List.set_cons_zero, List.set_cons_succ]

              set_option maxRecDepth 10000 in
              refine wpAnyH_take (i := 20) (v := undef) rfl (by kernel_rfl) (by kernel_rfl) (by kernel_rfl) (fun _ _ _ h => h) (Or.inr ⟨by rfl, rfl⟩) (by assumption) ?_
              try simp only [Act.put, List.getElem_toArray, List.getElem_cons_zero, List.getElem_cons_succ, List.setIfInBounds_toArray, List.set_cons_zero, List.set_cons_succ]

              set_option maxRecDepth 10000 in
              refine wpAnyH_take (i := 21) (v := undef) rfl (by kernel_rfl) (by kernel_rfl) (by kernel_rfl) (fun _ _ _ h => h) (Or.inr ⟨by rfl, rfl⟩) (by assumption) ?_
              try simp only [Act.put, List.getElem_toArray, List.getElem_cons_zero, List.getElem_cons_succ, List.setIfInBounds_toArray, List.set_cons_zero, List.set_cons_succ]

              set_option maxRecDepth 10000 in
              refine wpAnyH_take (i := 22) (v := ?_) rfl (by kernel_rfl) (by kernel_rfl) (by kernel_rfl) (fun _ _ _ h => h) (Or.inl ⟨by rfl, ?_⟩) (by assumption) ?_
              rotate_left
              · intro w hSw; (try dsimp only at hSw); go_simp; (try with_reducible rfl)
              try simp only [Act.put, List.getElem_toArray, List.getElem_cons_zero, List.getElem_cons_succ, List.setIfInBounds_toArray, List.set_cons_zero, List.set_cons_succ]

              set_option maxRecDepth 10000 in
              refine wpAnyH_take (i := 23) (v := ?_) rfl (by kernel_rfl) (by kernel_rfl) (by kernel_rfl) (fun _ _ _ h => h) (Or.inl ⟨by rfl, ?_⟩) (by assumption) ?_
              rotate_left
              · intro w hSw; (try dsimp only at hSw); go_simp; (try with_reducible rfl)
              try simp only [Act.put, List.getElem_toArray, List.getElem_cons_zero, List.getElem_cons_succ, List.setIfInBounds_toArray, List.set_cons_zero, List.set_cons_succ]

              set_option maxRecDepth 10000 in
              refine wpAnyH_take (i := 24) (v := ?_) rfl (by kernel_rfl) (by kernel_rfl) (by kernel_rfl) (fun _ _ _ h => h) (Or.inl ⟨by rfl, ?_⟩) (by assumption) ?_
              rotate_left
              · intro w hSw; (try dsimp only at hSw); go_simp; (try with_reducible rfl)
              try simp only [Act.put, List.getElem_toArray, List.getElem_cons_zero, List.getElem_cons_succ, List.setIfInBounds_toArray, List.set_cons_zero, List.set_cons_succ]

              set_option maxRecDepth 10000 in
              refine wpAnyH_ready (rs := [25]) (by kernel_rfl) (by simp) ?_

              refine AllReadyH.cons rfl (fun K hK => ?_) AllReadyH.nil
              refine step_call_w (by rfl) 20 _ _ (by rfl) EK1.out _ (by rfl) (known_any _) ?_
              rintro _ wJ ⟨rfl, hb⟩
              refine ⟨_, rfl, ?_⟩
              replace b0 := below_cell hb b0
              replace b2 := below_cell hb b2
              replace n0 := below_cell hb n0
              replace HB5 := Lib.hid (HB5.out.below hb)
              replace RX1 := Lib.hid (RX1.out.below hb)
              replace RX3 := Lib.hid (RX3.out.below hb)
              replace HB := Lib.hid (HB.out.trans (hb.mono HB.out.size))
              clear hb
              refine hK.out _ _ trivial (fun hHeld => ?_)
              clear hK K
              try simp only [Act.put, List.setIfInBounds_toArray, List.set_cons_zero, List.set_cons_succ]
              set_option maxRecDepth 10000 in
              refine wpAnyH_take (i := 26) (v := ?_) rfl (by kernel_rfl) (by kernel_rfl) (by kernel_rfl) (fun _ _ _ h => h) (Or.inl ⟨by rfl, ?_⟩) (by assumption) ?_
              rotate_left
              · intro w hSw; (try dsimp only at hSw); go_simp; (try with_reducible rfl)
              try simp only [Act.put, List.getElem_toArray, List.getElem_cons_zero, List.getElem_cons_succ, List.setIfInBounds_toArray, List.set_cons_zero, List.set_cons_succ]

              set_option maxRecDepth 10000 in
              refine wpAnyH_take (i := 27) (v := ?_) rfl (by kernel_rfl) (by kernel_rfl) (by kernel_rfl) (fun _ _ _ h => h) (Or.inl ⟨by rfl, ?_⟩) (by assumption) ?_
              rotate_left
              · intro w hSw; (try dsimp only at hSw); go_simp; (try with_reducible rfl)
              try simp only [Act.put, List.getElem_toArray, List.getElem_cons_zero, List.getElem_cons_succ, List.setIfInBounds_toArray, List.set_cons_zero, List.set_cons_succ]

              refine wpAnyH_done (by kernel_rfl) ?_ _
              try refine NoPanic.normal ?_
              all_goals
                go_wp2
                have hK := (HB5.out.block Wp.heap.size hDl).trans HD5.out
                refine ⟨by simp, .inl ⟨_, _, rfl, run_takeDeferred hK, ?_⟩⟩
                exact ⟨.bool true, by simp [results, Try.results13, go_sem], rfl, HB.out.trans (below_of_fr (fr_putObj _ _ _) HB.out.size fun i hi => by have h : i = Wp.heap.size := hi; omega)⟩
            · skip
              subst hds
              obtain ⟨bd, od, rfl, hbd, hc⟩ := rd_at RD.out (i := 0) (x := ⟨s.at_, nx - 1⟩) rfl
              have e0 : w1.cell? ⟨bd, od, none⟩ = some (.int .i64 s.at_) := hc 0 _ rfl
              have e1 : w1.cell? ⟨bd, od + 1, none⟩ = some (.int .i64 (nx - 1)) := hc 1 _ rfl
              clear hc
              clear RD
              have hb : Below w1.heap.size w1 w1.drew := (Below.refl _ _).drew
              replace b0 := below_cell hb b0
              replace b2 := below_cell hb b2
              replace n0 := below_cell hb n0
              replace e0 := below_cell hb e0
              replace e1 := below_cell hb e1
              replace HB5 := Lib.hid (HB5.out.below hb)
              replace RX1 := Lib.hid (RX1.out.below hb)
              replace RX3 := Lib.hid (RX3.out.below hb)
              replace HB := Lib.hid (HB.out.trans (hb.mono HB.out.size))
              clear hb
              skip
              go_region_held3 (fun W => W.cell? ⟨w.heap.size + 1, 0, none⟩ = some (.int .i64 s.at_) ∧ W.cell? ⟨N, 0, none⟩ = some (.int .i64 nx) ∧ W.cell? ⟨bd, od, none⟩ = some (.int .i64 s.at_) ∧ W.cell? ⟨bd, od + 1, none⟩ = some (.int .i64 (nx - 1))) (first | exact ⟨b0, n0, e0, e1⟩ | go_keep) ((first | (go_at_call 39; ((with_reducible refine (HEQ.out _ RX1.out RX3.out).mono ?_)); rintro _ wK ⟨rfl, hb⟩; (first | (have hb2 := hb; replace b0 := below_cell hb2 b0; replace b2 := below_cell hb2 b2; replace n0 := below_cell hb2 n0; replace e0 := below_cell hb2 e0; replace e1 := below_cell hb2 e1; replace HB5 := Lib.hid (HB5.out.below hb2); replace RX1 := Lib.hid (RX1.out.below hb2); replace RX3 := Lib.hid (RX3.out.below hb2); replace HB := Lib.hid (HB.out.trans (hb2.mono HB.out.size)); clear hb2 hb) | (have hb2 := ((Below.refl _ _).alloc (Nat.le_refl _) _).trans (hb.mono (by simp)); replace b0 := below_cell hb2 b0; replace b2 := below_cell hb2 b2; replace n0 := below_cell hb2 n0; replace e0 := below_cell hb2 e0; replace e1 := below_cell hb2 e1; replace HB5 := Lib.hid (HB5.out.below hb2); replace RX1 := Lib.hid (RX1.out.below hb2); replace RX3 := Lib.hid (RX3.out.below hb2); replace HB := Lib.hid (HB.out.trans (hb2.mono HB.out.size)); clear hb2 hb))) | (go_at_call 20; ((with_reducible refine (known_any _).mono ?_)); rintro _ wK ⟨rfl, hb⟩; (first | (have hb2 := hb; replace b0 := below_cell hb2 b0; replace b2 := below_cell hb2 b2; replace n0 := below_cell hb2 n0; replace e0 := below_cell hb2 e0; replace e1 := below_cell hb2 e1; replace HB5 := Lib.hid (HB5.out.below hb2); replace RX1 := Lib.hid (RX1.out.below hb2); replace RX3 := Lib.hid (RX3.out.below hb2); replace HB := Lib.hid (HB.out.trans (hb2.mono HB.out.size)); clear hb2 hb) | (have hb2 := ((Below.refl _ _).alloc (Nat.le_refl _) _).trans (hb.mono (by simp)); replace b0 := below_cell hb2 b0; replace b2 := below_cell hb2 b2; replace n0 := below_cell hb2 n0; replace e0 := below_cell hb2 e0; replace e1 := below_cell hb2 e1; replace HB5 := Lib.hid (HB5.out.below hb2); replace RX1 := Lib.hid (RX1.out.below hb2); replace RX3 := Lib.hid (RX3.out.below hb2); replace HB := Lib.hid (HB.out.trans (hb2.mono HB.out.size)); clear hb2 hb))) | fail))
              all_goals
                go_wp2
                have hK := (HB5.out.block Wp.heap.size hDl).trans HD5.out
                refine ⟨by simp, .inl ⟨_, _, rfl, run_takeDeferred hK, ?_⟩⟩
                exact ⟨.bool true, by simp [results, Try.results13, go_sem], rfl, HB.out.trans (below_of_fr (fr_putObj _ _ _) HB.out.size fun i hi => by have h : i = Wp.heap.size := hi; omega)⟩
        · skip
          have PU2 := Lib.hid (PU.out h3)
          by_cases hd : s.do_ = 2
          · skip
            have PUT := Lib.hid (PU2.out.2 (by omega))
            go_wp2_with fail
            refine (put_any _ _ Q P _ RQ.out RP.out (fun a n c h => by injection h with h1 h2 h3; omega) (by omega) PUT.out).mono ?_
            rintro e w1 ⟨rfl, hb⟩
            replace c0 := below_cell hb c0
            replace c1 := below_cell hb c1
            replace b0 := below_cell hb b0
            replace b1 := below_cell hb b1
            replace b2 := below_cell hb b2
            replace b3 := below_cell hb b3
            replace t0 := below_cell hb t0
            replace d0 := below_cell hb d0
            replace d1 := below_cell hb d1
            replace RS := Lib.hid (RS.out.below hb)
            replace RA := Lib.hid (RA.out.below hb)
            replace RD := Lib.hid (RD.out.below hb)
            replace RP := Lib.hid (RP.out.below hb)
            replace RQ := Lib.hid (RQ.out.below hb)
            replace HB := Lib.hid (HB.out.trans (hb.mono HB.out.size))
            clear hb
            go_wp2_with fail
            refine (known_any _).mono ?_
            rintro e w1 ⟨rfl, hb⟩
            replace c0 := below_cell hb c0
            replace c1 := below_cell hb c1
            replace b0 := below_cell hb b0
            replace b1 := below_cell hb b1
            replace b2 := below_cell hb b2
            replace b3 := below_cell hb b3
            replace t0 := below_cell hb t0
            replace d0 := below_cell hb d0
            replace d1 := below_cell hb d1
            replace RS := Lib.hid (RS.out.below hb)
            replace RA := Lib.hid (RA.out.below hb)
            replace RD := Lib.hid (RD.out.below hb)
            replace RP := Lib.hid (RP.out.below hb)
            replace RQ := Lib.hid (RQ.out.below hb)
            replace HB := Lib.hid (HB.out.trans (hb.mono HB.out.size))
            clear hb
            go_wp2
            exact ⟨.bool true, by simp [results, Try.results13, go_sem], rfl, HB.out⟩
          · skip
            have PUT := Lib.hid (PU2.out.1 (by have := HDO.out; omega))
            go_wp2_with fail
            refine (put_any _ _ P Q _ RP.out RQ.out (fun a n c h => by injection h with h1 h2 h3; omega) (by omega) PUT.out).mono ?_
            rintro e w1 ⟨rfl, hb⟩
            replace c0 := below_cell hb c0
            replace c1 := below_cell hb c1
            replace b0 := below_cell hb b0
            replace b1 := below_cell hb b1
            replace b2 := below_cell hb b2
            replace b3 := below_cell hb b3
            replace t0 := below_cell hb t0
            replace d0 := below_cell hb d0
            replace d1 := below_cell hb d1
            replace RS := Lib.hid (RS.out.below hb)
            replace RA := Lib.hid (RA.out.below hb)
            replace RD := Lib.hid (RD.out.below hb)
            replace RP := Lib.hid (RP.out.below hb)
            replace RQ := Lib.hid (RQ.out.below hb)
            replace HB := Lib.hid (HB.out.trans (hb.mono HB.out.size))
            clear hb
            go_wp2_with fail
            refine (known_any _).mono ?_
            rintro e w1 ⟨rfl, hb⟩
            replace c0 := below_cell hb c0
            replace c1 := below_cell hb c1
            replace b0 := below_cell hb b0
            replace b1 := below_cell hb b1
            replace b2 := below_cell hb b2
            replace b3 := below_cell hb b3
            replace t0 := below_cell hb t0
            replace d0 := below_cell hb d0
            replace d1 := below_cell hb d1
            replace RS := Lib.hid (RS.out.below hb)
            replace RA := Lib.hid (RA.out.below hb)
            replace RD := Lib.hid (RD.out.below hb)
            replace RP := Lib.hid (RP.out.below hb)
            replace RQ := Lib.hid (RQ.out.below hb)
            replace HB := Lib.hid (HB.out.trans (hb.mono HB.out.size))
            clear hb
            go_wp2
            exact ⟨.bool true, by simp [results, Try.results13, go_sem], rfl, HB.out⟩
end Go.Proofs.Ytkoeplbkeboklaa
