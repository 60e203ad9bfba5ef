/- My texts, joined: W5. -/
import Derived.Below
import Derived.BigQuiet
import Derived.Deep.AppendLies
import Derived.Deep.DeepCutAuto
import Derived.Deep.QuietTactic
import Derived.Deep.RegionHeld
import Derived.Deep.RegionHeld3
import Derived.Deep.RegionLaw
import Derived.KernelRfl
import Derived.Laws.AppendOwn
import Derived.Laws.AppendOwnNone
import Derived.Laws.CopyRow
import Derived.Lib.Hide
import Derived.LoopIn
import Derived.LoopNIn
import Derived.LoopTactic
import Derived.Maps.AppendAt
import Derived.Outline
import Derived.OwnWalk
import Derived.OwnWalkIn
import Derived.RangeFuncBound
import Derived.RangeFuncCalls
import Derived.RangeFuncLeaves
import Derived.RangeFuncNested
import Derived.Shelf.Abstract
import Derived.Shelf.RegionOpen
import Derived.TacticsInMore
import Derived.Test.YtgiploddoffmjaaGreatProg
import Derived.WalkKit
import Derived.WalkSpells
import Derived.Test.YtgiploddoffmjaaGreatM0
import Derived.Test.YtgiploddoffmjaaGreatM1
import Derived.Test.YtgiploddoffmjaaGreatM2
import Derived.Test.YtgiploddoffmjaaGreatM3
import Derived.Test.YtgiploddoffmjaaGreatM4
import Derived.Test.YtgiploddoffmjaaGreatM5
import Derived.Test.YtgiploddoffmjaaGreatXMatchMachine1
import Derived.Test.YtgiploddoffmjaaGreatXMatchMachine2
set_option linter.unusedVariables false
set_option linter.unusedSimpArgs false
set_option linter.unusedSectionVars false
set_option maxRecDepth 10000
namespace Go.Proofs.YtgiploddoffmjaaGreat
section
open Go.RowKit Go.Shelf
attribute [local go_sem] Oper.semAt_some
theorem drop_cnt : ∀ (ps : Pats) (i : Nat), (ps.drop i).cnt ≤ ps.cnt
 | ps, 0 => by cases ps <;> simp [Pats.drop]
 | .nil, i + 1 => by simp [Pats.drop]
 | .cons _ _ _ _ r, i + 1 => by have := drop_cnt r i; rw [Pats.drop, Pats.cnt]; omega
theorem drop_nil (ks : Pats) : ks.drop ks.len = .nil := by
 have := drop_len ks ks.len
 rw [Nat.sub_self] at this
 cases h : ks.drop ks.len with
 | nil => rfl
 | cons _ _ _ _ _ => rw [h] at this; simp [Pats.len] at this
section
variable (srcs : Int) (ts tl th pn : Int) (ks : Pats) (dp nodes : Nat) (w : World)
set_option maxHeartbeats 8000000 in
theorem refPat_go1 (hs : 1 ≤ srcs ∧ srcs ≤ 4) (v : Value) (hr : RdK w ks v) (h0 : nodes < 12) (hdp : dp ≤ 6) (hg : nodeP srcs 1 ⟨ts, tl, th⟩ pn ks = true)
 (hIH : ∀ (x : Node) (v : Value) (d n : Nat) (W : World), x.ks.cnt < ks.cnt → d ≤ 6 → n ≤ 12 → RdK W x.ks v → Calls Tryz.prog 148 #[.agg (patA x v), .int .i64 srcs, .int .i64 d, .int .i64 n] W fun e w' => e = .returned (.int .i64 (refPat srcs x.op x.t x.n x.ks d n)) ∧ Below W.heap.size W w') :
 Calls Tryz.prog 148 #[.agg #[.int .i64 1, .int .i64 ts, .int .i64 tl, .int .i64 th, .int .i64 pn, v], .int .i64 srcs, .int .i64 ((dp : Int) + 1), .int .i64 nodes] w fun e w' => e = .returned (.int .i64 (refPats srcs ks dp (nodes + 1))) ∧ Below w.heap.size w w' := by
 have HIH := zH hIH
 clear hIH
 have hP : nodeP srcs 1 ⟨ts, tl, th⟩ pn ks = (decide ((ks.len : Int) = 0) && inP pn 0 200 && isTestP ⟨ts, tl, th⟩ srcs && decide (pn = 0) && true) := rfl
 rw [hP] at hg
 clear hP
 simp only [Bool.and_eq_true, decide_eq_true_eq, zeroT, Test.mk.injEq, beq_iff_eq, and_true] at hg
 obtain ⟨⟨⟨hl, hin⟩, ht⟩, rfl⟩ := hg
 have HLN := zH hl
 clear hl
 have HR := zH hr
 obtain ⟨a, c, rfl, hcc, hcl, _⟩ := hr
 go_enter Tryz.func148, Tryz.ntmps148
 go_wp2_with fail
 refine zX (G := fun W => Code.wp _ _ _ _ W) w _ _ fun w2 hb hz hx => ?_
 have c0 : w2.cell? ⟨w.heap.size, 0, none⟩ = some (.int .i64 1) := zC hx 0
 have c1 : w2.cell? ⟨w.heap.size, 1, none⟩ = some (.int .i64 ts) := zC hx 1
 have c2 : w2.cell? ⟨w.heap.size, 2, none⟩ = some (.int .i64 tl) := zC hx 2
 have c3 : w2.cell? ⟨w.heap.size, 3, none⟩ = some (.int .i64 th) := zC hx 3
 have c4 : w2.cell? ⟨w.heap.size, 4, none⟩ = some (.int .i64 0) := zC hx 4
 have c5 : w2.cell? ⟨w.heap.size, 5, none⟩ = some (.slice a ks.len c) := zC hx 5
 clear hx hz
 have HB := zH (hb.trans ((Below.refl w2.heap.size w2).drew.mono hb.size))
 have hb2 : Below w2.heap.size w2 w2.drew := (Below.refl _ _).drew
 replace c0 := zB hb2 c0
 replace c1 := zB hb2 c1
 replace c2 := zB hb2 c2
 replace c3 := zB hb2 c3
 replace c4 := zB hb2 c4
 replace c5 := zB hb2 c5
 replace HR := zH ((HR.out.below hb).below hb2)
 have h1 : ¬ (12 : Int) ≤ (nodes : Int) := by omega
 have h2 : ((dp : Int) + 1 == 0) = false := by simp; omega
 have h2' : ¬ (dp : Int) + 1 = 0 := by omega
 have hw1 : IntKind.i64.wrap ((dp : Int) + 1 - 1) = (dp : Int) := by rw [Go.IntWalk.i64_in _ (by omega)]; omega
 have hw3 : IntKind.i64.wrap (dp : Int) = (dp : Int) := Go.IntWalk.i64_in _ (by omega)
 have hw2 : IntKind.i64.wrap ((nodes : Int) + 1) = (nodes : Int) + 1 := Go.IntWalk.i64_in _ (by omega)
 have hkq : kidsP 1 = 0 := rfl
 have h3 : ((ks.len : Int) != 0) = false := by have := HLN.out; simp [this]
 clear hb2 hb
 go_region_held3 (fun W => W.cell? ⟨w.heap.size, 0, none⟩ = some (.int .i64 1) ∧ W.cell? ⟨w.heap.size, 4, none⟩ = some (.int .i64 0) ∧ W.cell? ⟨w.heap.size, 5, none⟩ = some (.slice a ks.len c)) (first | exact ⟨c0, c4, c5⟩ | go_keep) ((first | (go_at_call 208; ((with_reducible refine (refKids_any _ _).mono ?_)); rintro _ wK ⟨rfl, rfl⟩) | (go_at_call 96; ((with_reducible refine (refIn_any _ _ _ _).mono ?_)); rintro _ wK ⟨rfl, rfl⟩) | fail))
 go_wp2_with (go_at_call 101; refine (refTest_any ⟨ts, tl, th⟩ srcs hs _).mono ?_; rintro e w9 ⟨rfl, hb9⟩; have d0 := zB hb9 c0; have d4 := zB hb9 c4; have d5 := zB hb9 c5)
 replace HB := zH (HB.out.trans (hb9.mono HB.out.size))
 replace HR := zH (HR.out.below hb9)
 clear c0 c1 c2 c3 c4 c5
 have c5 := d5
 clear d5 d0 d4 hb9
 obtain ⟨wS, rfl⟩ : ∃ y : World, y = w9 := ⟨w9, rfl⟩
 go_loopw [10, 3] (fun i v W => ∃ m nd : Nat, i = .int .i64 m ∧ v = .int .i64 nd ∧ m ≤ ks.len ∧ nd ≤ 12 ∧ refPats srcs (ks.drop m) dp nd = refPats srcs ks dp (nodes + 1) ∧ Below wS.heap.size wS W) (fun i _ _ => ks.len - (intOf i).toNat)
 case atStart => exact ⟨0, nodes + 1, rfl, by go_num, by omega, by omega, by cases ks <;> rfl, Below.refl _ _⟩
 case round =>
  obtain ⟨m, nd, rfl, rfl, hml, hnd, heq, hB⟩ := hrel
  have HL := zH (zA heq hB)
  have g5 := zB hB c5
  clear heq hB
  by_cases hlt : m < ks.len
  ·obtain ⟨o', ⟨ts', tl', th'⟩, n', k', hdc⟩ := drop_cons hlt
   have hrd := HR.out.below HL.out.2
   obtain ⟨a0, c0', he, _, _, hrk⟩ := hrd
   injection he with he1 he2 he3
   obtain ⟨b, off, hab, hbB, hps⟩ := hrk (by omega)
   rw [hab] at he1
   clear hab he2 he3
   have hps2 := hps.drop m (by omega)
   rw [hdc] at hps2
   obtain ⟨⟨q0, q1, q2', q3, q4⟩, ⟨a5, c5', q5, h6, h7, h8⟩, _⟩ := hps2
   have hcnt : k'.cnt < ks.cnt := by
    have h9 := drop_cnt ks m
    rw [hdc, Pats.cnt] at h9
    omega
   have hcall := HIH.out ⟨o', ⟨ts', tl', th'⟩, n', k'⟩ (.slice a5 k'.len c5') dp nd wr hcnt hdp hnd ⟨a5, c5', rfl, h6, h7, h8⟩
   obtain ⟨R, hR⟩ : ∃ R, R = refPat srcs o' ⟨ts', tl', th'⟩ n' k' dp nd := ⟨_, rfl⟩
   have hcall2 : Calls Tryz.prog 148 #[.agg #[.int .i64 o', .int .i64 ts', .int .i64 tl', .int .i64 th', .int .i64 n', .slice a5 k'.len c5'], .int .i64 srcs, .int .i64 dp, .int .i64 nd] wr fun e w' => e = .returned (.int .i64 R) ∧ Below wr.heap.size wr w' := by rw [hR]; exact hcall
   have heq2 := HL.out.1
   rw [hdc, refPats_cons, ← hR] at heq2
   have HC := zH (zA hcall2 heq2)
   have hml1 : (m : Int) < (ks.len : Int) := by omega
   clear hcall hcall2 heq2 hR hps hrk h8 hdc
   subst he1
   by_cases h12 : R ≤ 12
   ·have h12i : ¬ (12 : Int) < (R : Int) := by omega
    go_wp2_with (go_at_call 148; refine HC.out.1.mono ?_; rintro e w4 ⟨rfl, hb4⟩; have g6 := zB hb4 g5)
    go_roundw
    case rel => exact ⟨m + 1, R, by go_num, rfl, by omega, h12, by rw [← HC.out.2, if_neg (by omega)], HL.out.2.trans (hb4.mono HL.out.2.size)⟩
    case measure => simp [intOf]; omega
   ·have h12i : (12 : Int) < (R : Int) := by omega
    go_wp2_with (go_at_call 148; refine HC.out.1.mono ?_; rintro e w4 ⟨rfl, hb4⟩; have g6 := zB hb4 g5)
    go_ret
    exact ⟨ret_int (by rw [← HC.out.2, if_pos (by omega)]; rfl), HB.out.trans ((HL.out.2.trans (hb4.mono HL.out.2.size)).mono HB.out.size)⟩
  ·obtain rfl : m = ks.len := by omega
   have hfin : refPats srcs ks dp (nodes + 1) = nd := by rw [← HL.out.1, drop_nil]; rfl
   have HFN := zH hfin
   clear hfin
   go_wp2
   go_ret
   exact ⟨ret_int (by rw [HFN.out]), HB.out.trans (HL.out.2.mono HB.out.size)⟩
set_option maxHeartbeats 8000000 in
theorem refPat_go2 (hs : 1 ≤ srcs ∧ srcs ≤ 4) (v : Value) (hr : RdK w ks v) (h0 : nodes < 12) (hdp : dp ≤ 6) (hg : nodeP srcs 2 ⟨ts, tl, th⟩ pn ks = true)
 (hIH : ∀ (x : Node) (v : Value) (d n : Nat) (W : World), x.ks.cnt < ks.cnt → d ≤ 6 → n ≤ 12 → RdK W x.ks v → Calls Tryz.prog 148 #[.agg (patA x v), .int .i64 srcs, .int .i64 d, .int .i64 n] W fun e w' => e = .returned (.int .i64 (refPat srcs x.op x.t x.n x.ks d n)) ∧ Below W.heap.size W w') :
 Calls Tryz.prog 148 #[.agg #[.int .i64 2, .int .i64 ts, .int .i64 tl, .int .i64 th, .int .i64 pn, v], .int .i64 srcs, .int .i64 ((dp : Int) + 1), .int .i64 nodes] w fun e w' => e = .returned (.int .i64 (refPats srcs ks dp (nodes + 1))) ∧ Below w.heap.size w w' := by
 have HIH := zH hIH
 clear hIH
 have hP : nodeP srcs 2 ⟨ts, tl, th⟩ pn ks = (decide ((ks.len : Int) = 2) && inP pn 0 200 && decide ((⟨ts, tl, th⟩ : Test) = zeroT) && true && true) := rfl
 rw [hP] at hg
 clear hP
 simp only [Bool.and_eq_true, decide_eq_true_eq, zeroT, Test.mk.injEq, beq_iff_eq, and_true] at hg
 obtain ⟨⟨hl, hin⟩, rfl, rfl, rfl⟩ := hg
 have HLN := zH hl
 clear hl
 have HR := zH hr
 obtain ⟨a, c, rfl, hcc, hcl, _⟩ := hr
 go_enter Tryz.func148, Tryz.ntmps148
 go_wp2_with fail
 refine zX (G := fun W => Code.wp _ _ _ _ W) w _ _ fun w2 hb hz hx => ?_
 have c0 : w2.cell? ⟨w.heap.size, 0, none⟩ = some (.int .i64 2) := zC hx 0
 have c1 : w2.cell? ⟨w.heap.size, 1, none⟩ = some (.int .i64 0) := zC hx 1
 have c2 : w2.cell? ⟨w.heap.size, 2, none⟩ = some (.int .i64 0) := zC hx 2
 have c3 : w2.cell? ⟨w.heap.size, 3, none⟩ = some (.int .i64 0) := zC hx 3
 have c4 : w2.cell? ⟨w.heap.size, 4, none⟩ = some (.int .i64 pn) := zC hx 4
 have c5 : w2.cell? ⟨w.heap.size, 5, none⟩ = some (.slice a ks.len c) := zC hx 5
 clear hx hz
 have HB := zH (hb.trans ((Below.refl w2.heap.size w2).drew.mono hb.size))
 have hb2 : Below w2.heap.size w2 w2.drew := (Below.refl _ _).drew
 replace c0 := zB hb2 c0
 replace c1 := zB hb2 c1
 replace c2 := zB hb2 c2
 replace c3 := zB hb2 c3
 replace c4 := zB hb2 c4
 replace c5 := zB hb2 c5
 replace HR := zH ((HR.out.below hb).below hb2)
 have h1 : ¬ (12 : Int) ≤ (nodes : Int) := by omega
 have h2 : ((dp : Int) + 1 == 0) = false := by simp; omega
 have h2' : ¬ (dp : Int) + 1 = 0 := by omega
 have hw1 : IntKind.i64.wrap ((dp : Int) + 1 - 1) = (dp : Int) := by rw [Go.IntWalk.i64_in _ (by omega)]; omega
 have hw3 : IntKind.i64.wrap (dp : Int) = (dp : Int) := Go.IntWalk.i64_in _ (by omega)
 have hw2 : IntKind.i64.wrap ((nodes : Int) + 1) = (nodes : Int) + 1 := Go.IntWalk.i64_in _ (by omega)
 have hkq : kidsP 2 = 2 := rfl
 have h3 : ((ks.len : Int) != 2) = false := by have := HLN.out; simp [this]
 clear hb2 hb
 go_region_held3 (fun W => W.cell? ⟨w.heap.size, 0, none⟩ = some (.int .i64 2) ∧ W.cell? ⟨w.heap.size, 4, none⟩ = some (.int .i64 pn) ∧ W.cell? ⟨w.heap.size, 5, none⟩ = some (.slice a ks.len c)) (first | exact ⟨c0, c4, c5⟩ | go_keep) ((first | (go_at_call 208; ((with_reducible refine (refKids_any _ _).mono ?_)); rintro _ wK ⟨rfl, rfl⟩) | (go_at_call 96; ((with_reducible refine (refIn_any _ _ _ _).mono ?_)); rintro _ wK ⟨rfl, rfl⟩) | fail))
 go_wp2
 generalize w2.drew = wS at *
 go_loopw [10, 3] (fun i v W => ∃ m nd : Nat, i = .int .i64 m ∧ v = .int .i64 nd ∧ m ≤ ks.len ∧ nd ≤ 12 ∧ refPats srcs (ks.drop m) dp nd = refPats srcs ks dp (nodes + 1) ∧ Below wS.heap.size wS W) (fun i _ _ => ks.len - (intOf i).toNat)
 case atStart => exact ⟨0, nodes + 1, rfl, by go_num, by omega, by omega, by cases ks <;> rfl, Below.refl _ _⟩
 case round =>
  obtain ⟨m, nd, rfl, rfl, hml, hnd, heq, hB⟩ := hrel
  have HL := zH (zA heq hB)
  have g5 := zB hB c5
  clear heq hB
  by_cases hlt : m < ks.len
  ·obtain ⟨o', ⟨ts', tl', th'⟩, n', k', hdc⟩ := drop_cons hlt
   have hrd := HR.out.below HL.out.2
   obtain ⟨a0, c0', he, _, _, hrk⟩ := hrd
   injection he with he1 he2 he3
   obtain ⟨b, off, hab, hbB, hps⟩ := hrk (by omega)
   rw [hab] at he1
   clear hab he2 he3
   have hps2 := hps.drop m (by omega)
   rw [hdc] at hps2
   obtain ⟨⟨q0, q1, q2', q3, q4⟩, ⟨a5, c5', q5, h6, h7, h8⟩, _⟩ := hps2
   have hcnt : k'.cnt < ks.cnt := by
    have h9 := drop_cnt ks m
    rw [hdc, Pats.cnt] at h9
    omega
   have hcall := HIH.out ⟨o', ⟨ts', tl', th'⟩, n', k'⟩ (.slice a5 k'.len c5') dp nd wr hcnt hdp hnd ⟨a5, c5', rfl, h6, h7, h8⟩
   obtain ⟨R, hR⟩ : ∃ R, R = refPat srcs o' ⟨ts', tl', th'⟩ n' k' dp nd := ⟨_, rfl⟩
   have hcall2 : Calls Tryz.prog 148 #[.agg #[.int .i64 o', .int .i64 ts', .int .i64 tl', .int .i64 th', .int .i64 n', .slice a5 k'.len c5'], .int .i64 srcs, .int .i64 dp, .int .i64 nd] wr fun e w' => e = .returned (.int .i64 R) ∧ Below wr.heap.size wr w' := by rw [hR]; exact hcall
   have heq2 := HL.out.1
   rw [hdc, refPats_cons, ← hR] at heq2
   have HC := zH (zA hcall2 heq2)
   have hml1 : (m : Int) < (ks.len : Int) := by omega
   clear hcall hcall2 heq2 hR hps hrk h8 hdc
   subst he1
   by_cases h12 : R ≤ 12
   ·have h12i : ¬ (12 : Int) < (R : Int) := by omega
    go_wp2_with (go_at_call 148; refine HC.out.1.mono ?_; rintro e w4 ⟨rfl, hb4⟩; have g6 := zB hb4 g5)
    go_roundw
    case rel => exact ⟨m + 1, R, by go_num, rfl, by omega, h12, by rw [← HC.out.2, if_neg (by omega)], HL.out.2.trans (hb4.mono HL.out.2.size)⟩
    case measure => simp [intOf]; omega
   ·have h12i : (12 : Int) < (R : Int) := by omega
    go_wp2_with (go_at_call 148; refine HC.out.1.mono ?_; rintro e w4 ⟨rfl, hb4⟩; have g6 := zB hb4 g5)
    go_ret
    exact ⟨ret_int (by rw [← HC.out.2, if_pos (by omega)]; rfl), HB.out.trans ((HL.out.2.trans (hb4.mono HL.out.2.size)).mono HB.out.size)⟩
  ·obtain rfl : m = ks.len := by omega
   have hfin : refPats srcs ks dp (nodes + 1) = nd := by rw [← HL.out.1, drop_nil]; rfl
   have HFN := zH hfin
   clear hfin
   go_wp2
   go_ret
   exact ⟨ret_int (by rw [HFN.out]), HB.out.trans (HL.out.2.mono HB.out.size)⟩
set_option maxHeartbeats 8000000 in
theorem refPat_go3 (hs : 1 ≤ srcs ∧ srcs ≤ 4) (v : Value) (hr : RdK w ks v) (h0 : nodes < 12) (hdp : dp ≤ 6) (hg : nodeP srcs 3 ⟨ts, tl, th⟩ pn ks = true)
 (hIH : ∀ (x : Node) (v : Value) (d n : Nat) (W : World), x.ks.cnt < ks.cnt → d ≤ 6 → n ≤ 12 → RdK W x.ks v → Calls Tryz.prog 148 #[.agg (patA x v), .int .i64 srcs, .int .i64 d, .int .i64 n] W fun e w' => e = .returned (.int .i64 (refPat srcs x.op x.t x.n x.ks d n)) ∧ Below W.heap.size W w') :
 Calls Tryz.prog 148 #[.agg #[.int .i64 3, .int .i64 ts, .int .i64 tl, .int .i64 th, .int .i64 pn, v], .int .i64 srcs, .int .i64 ((dp : Int) + 1), .int .i64 nodes] w fun e w' => e = .returned (.int .i64 (refPats srcs ks dp (nodes + 1))) ∧ Below w.heap.size w w' := by
 have HIH := zH hIH
 clear hIH
 have hP : nodeP srcs 3 ⟨ts, tl, th⟩ pn ks = (decide ((ks.len : Int) = 2) && inP pn 0 200 && decide ((⟨ts, tl, th⟩ : Test) = zeroT) && decide (pn = 0) && true) := rfl
 rw [hP] at hg
 clear hP
 simp only [Bool.and_eq_true, decide_eq_true_eq, zeroT, Test.mk.injEq, beq_iff_eq, and_true] at hg
 obtain ⟨⟨⟨hl, hin⟩, rfl, rfl, rfl⟩, rfl⟩ := hg
 have HLN := zH hl
 clear hl
 have HR := zH hr
 obtain ⟨a, c, rfl, hcc, hcl, _⟩ := hr
 go_enter Tryz.func148, Tryz.ntmps148
 go_wp2_with fail
 refine zX (G := fun W => Code.wp _ _ _ _ W) w _ _ fun w2 hb hz hx => ?_
 have c0 : w2.cell? ⟨w.heap.size, 0, none⟩ = some (.int .i64 3) := zC hx 0
 have c1 : w2.cell? ⟨w.heap.size, 1, none⟩ = some (.int .i64 0) := zC hx 1
 have c2 : w2.cell? ⟨w.heap.size, 2, none⟩ = some (.int .i64 0) := zC hx 2
 have c3 : w2.cell? ⟨w.heap.size, 3, none⟩ = some (.int .i64 0) := zC hx 3
 have c4 : w2.cell? ⟨w.heap.size, 4, none⟩ = some (.int .i64 0) := zC hx 4
 have c5 : w2.cell? ⟨w.heap.size, 5, none⟩ = some (.slice a ks.len c) := zC hx 5
 clear hx hz
 have HB := zH (hb.trans ((Below.refl w2.heap.size w2).drew.mono hb.size))
 have hb2 : Below w2.heap.size w2 w2.drew := (Below.refl _ _).drew
 replace c0 := zB hb2 c0
 replace c1 := zB hb2 c1
 replace c2 := zB hb2 c2
 replace c3 := zB hb2 c3
 replace c4 := zB hb2 c4
 replace c5 := zB hb2 c5
 replace HR := zH ((HR.out.below hb).below hb2)
 have h1 : ¬ (12 : Int) ≤ (nodes : Int) := by omega
 have h2 : ((dp : Int) + 1 == 0) = false := by simp; omega
 have h2' : ¬ (dp : Int) + 1 = 0 := by omega
 have hw1 : IntKind.i64.wrap ((dp : Int) + 1 - 1) = (dp : Int) := by rw [Go.IntWalk.i64_in _ (by omega)]; omega
 have hw3 : IntKind.i64.wrap (dp : Int) = (dp : Int) := Go.IntWalk.i64_in _ (by omega)
 have hw2 : IntKind.i64.wrap ((nodes : Int) + 1) = (nodes : Int) + 1 := Go.IntWalk.i64_in _ (by omega)
 have hkq : kidsP 3 = 2 := rfl
 have h3 : ((ks.len : Int) != 2) = false := by have := HLN.out; simp [this]
 clear hb2 hb
 go_region_held3 (fun W => W.cell? ⟨w.heap.size, 0, none⟩ = some (.int .i64 3) ∧ W.cell? ⟨w.heap.size, 4, none⟩ = some (.int .i64 0) ∧ W.cell? ⟨w.heap.size, 5, none⟩ = some (.slice a ks.len c)) (first | exact ⟨c0, c4, c5⟩ | go_keep) ((first | (go_at_call 208; ((with_reducible refine (refKids_any _ _).mono ?_)); rintro _ wK ⟨rfl, rfl⟩) | (go_at_call 96; ((with_reducible refine (refIn_any _ _ _ _).mono ?_)); rintro _ wK ⟨rfl, rfl⟩) | fail))
 go_wp2
 generalize w2.drew = wS at *
 go_loopw [10, 3] (fun i v W => ∃ m nd : Nat, i = .int .i64 m ∧ v = .int .i64 nd ∧ m ≤ ks.len ∧ nd ≤ 12 ∧ refPats srcs (ks.drop m) dp nd = refPats srcs ks dp (nodes + 1) ∧ Below wS.heap.size wS W) (fun i _ _ => ks.len - (intOf i).toNat)
 case atStart => exact ⟨0, nodes + 1, rfl, by go_num, by omega, by omega, by cases ks <;> rfl, Below.refl _ _⟩
 case round =>
  obtain ⟨m, nd, rfl, rfl, hml, hnd, heq, hB⟩ := hrel
  have HL := zH (zA heq hB)
  have g5 := zB hB c5
  clear heq hB
  by_cases hlt : m < ks.len
  ·obtain ⟨o', ⟨ts', tl', th'⟩, n', k', hdc⟩ := drop_cons hlt
   have hrd := HR.out.below HL.out.2
   obtain ⟨a0, c0', he, _, _, hrk⟩ := hrd
   injection he with he1 he2 he3
   obtain ⟨b, off, hab, hbB, hps⟩ := hrk (by omega)
   rw [hab] at he1
   clear hab he2 he3
   have hps2 := hps.drop m (by omega)
   rw [hdc] at hps2
   obtain ⟨⟨q0, q1, q2', q3, q4⟩, ⟨a5, c5', q5, h6, h7, h8⟩, _⟩ := hps2
   have hcnt : k'.cnt < ks.cnt := by
    have h9 := drop_cnt ks m
    rw [hdc, Pats.cnt] at h9
    omega
   have hcall := HIH.out ⟨o', ⟨ts', tl', th'⟩, n', k'⟩ (.slice a5 k'.len c5') dp nd wr hcnt hdp hnd ⟨a5, c5', rfl, h6, h7, h8⟩
   obtain ⟨R, hR⟩ : ∃ R, R = refPat srcs o' ⟨ts', tl', th'⟩ n' k' dp nd := ⟨_, rfl⟩
   have hcall2 : Calls Tryz.prog 148 #[.agg #[.int .i64 o', .int .i64 ts', .int .i64 tl', .int .i64 th', .int .i64 n', .slice a5 k'.len c5'], .int .i64 srcs, .int .i64 dp, .int .i64 nd] wr fun e w' => e = .returned (.int .i64 R) ∧ Below wr.heap.size wr w' := by rw [hR]; exact hcall
   have heq2 := HL.out.1
   rw [hdc, refPats_cons, ← hR] at heq2
   have HC := zH (zA hcall2 heq2)
   have hml1 : (m : Int) < (ks.len : Int) := by omega
   clear hcall hcall2 heq2 hR hps hrk h8 hdc
   subst he1
   by_cases h12 : R ≤ 12
   ·have h12i : ¬ (12 : Int) < (R : Int) := by omega
    go_wp2_with (go_at_call 148; refine HC.out.1.mono ?_; rintro e w4 ⟨rfl, hb4⟩; have g6 := zB hb4 g5)
    go_roundw
    case rel => exact ⟨m + 1, R, by go_num, rfl, by omega, h12, by rw [← HC.out.2, if_neg (by omega)], HL.out.2.trans (hb4.mono HL.out.2.size)⟩
    case measure => simp [intOf]; omega
   ·have h12i : (12 : Int) < (R : Int) := by omega
    go_wp2_with (go_at_call 148; refine HC.out.1.mono ?_; rintro e w4 ⟨rfl, hb4⟩; have g6 := zB hb4 g5)
    go_ret
    exact ⟨ret_int (by rw [← HC.out.2, if_pos (by omega)]; rfl), HB.out.trans ((HL.out.2.trans (hb4.mono HL.out.2.size)).mono HB.out.size)⟩
  ·obtain rfl : m = ks.len := by omega
   have hfin : refPats srcs ks dp (nodes + 1) = nd := by rw [← HL.out.1, drop_nil]; rfl
   have HFN := zH hfin
   clear hfin
   go_wp2
   go_ret
   exact ⟨ret_int (by rw [HFN.out]), HB.out.trans (HL.out.2.mono HB.out.size)⟩
set_option maxHeartbeats 8000000 in
theorem refPat_go4 (hs : 1 ≤ srcs ∧ srcs ≤ 4) (v : Value) (hr : RdK w ks v) (h0 : nodes < 12) (hdp : dp ≤ 6) (hg : nodeP srcs 4 ⟨ts, tl, th⟩ pn ks = true)
 (hIH : ∀ (x : Node) (v : Value) (d n : Nat) (W : World), x.ks.cnt < ks.cnt → d ≤ 6 → n ≤ 12 → RdK W x.ks v → Calls Tryz.prog 148 #[.agg (patA x v), .int .i64 srcs, .int .i64 d, .int .i64 n] W fun e w' => e = .returned (.int .i64 (refPat srcs x.op x.t x.n x.ks d n)) ∧ Below W.heap.size W w') :
 Calls Tryz.prog 148 #[.agg #[.int .i64 4, .int .i64 ts, .int .i64 tl, .int .i64 th, .int .i64 pn, v], .int .i64 srcs, .int .i64 ((dp : Int) + 1), .int .i64 nodes] w fun e w' => e = .returned (.int .i64 (refPats srcs ks dp (nodes + 1))) ∧ Below w.heap.size w w' := by
 have HIH := zH hIH
 clear hIH
 have hP : nodeP srcs 4 ⟨ts, tl, th⟩ pn ks = (decide ((ks.len : Int) = 1) && inP pn 0 200 && decide ((⟨ts, tl, th⟩ : Test) = zeroT) && true && true) := rfl
 rw [hP] at hg
 clear hP
 simp only [Bool.and_eq_true, decide_eq_true_eq, zeroT, Test.mk.injEq, beq_iff_eq, and_true] at hg
 obtain ⟨⟨hl, hin⟩, rfl, rfl, rfl⟩ := hg
 have HLN := zH hl
 clear hl
 have HR := zH hr
 obtain ⟨a, c, rfl, hcc, hcl, _⟩ := hr
 go_enter Tryz.func148, Tryz.ntmps148
 go_wp2_with fail
 refine zX (G := fun W => Code.wp _ _ _ _ W) w _ _ fun w2 hb hz hx => ?_
 have c0 : w2.cell? ⟨w.heap.size, 0, none⟩ = some (.int .i64 4) := zC hx 0
 have c1 : w2.cell? ⟨w.heap.size, 1, none⟩ = some (.int .i64 0) := zC hx 1
 have c2 : w2.cell? ⟨w.heap.size, 2, none⟩ = some (.int .i64 0) := zC hx 2
 have c3 : w2.cell? ⟨w.heap.size, 3, none⟩ = some (.int .i64 0) := zC hx 3
 have c4 : w2.cell? ⟨w.heap.size, 4, none⟩ = some (.int .i64 pn) := zC hx 4
 have c5 : w2.cell? ⟨w.heap.size, 5, none⟩ = some (.slice a ks.len c) := zC hx 5
 clear hx hz
 have HB := zH (hb.trans ((Below.refl w2.heap.size w2).drew.mono hb.size))
 have hb2 : Below w2.heap.size w2 w2.drew := (Below.refl _ _).drew
 replace c0 := zB hb2 c0
 replace c1 := zB hb2 c1
 replace c2 := zB hb2 c2
 replace c3 := zB hb2 c3
 replace c4 := zB hb2 c4
 replace c5 := zB hb2 c5
 replace HR := zH ((HR.out.below hb).below hb2)
 have h1 : ¬ (12 : Int) ≤ (nodes : Int) := by omega
 have h2 : ((dp : Int) + 1 == 0) = false := by simp; omega
 have h2' : ¬ (dp : Int) + 1 = 0 := by omega
 have hw1 : IntKind.i64.wrap ((dp : Int) + 1 - 1) = (dp : Int) := by rw [Go.IntWalk.i64_in _ (by omega)]; omega
 have hw3 : IntKind.i64.wrap (dp : Int) = (dp : Int) := Go.IntWalk.i64_in _ (by omega)
 have hw2 : IntKind.i64.wrap ((nodes : Int) + 1) = (nodes : Int) + 1 := Go.IntWalk.i64_in _ (by omega)
 have hkq : kidsP 4 = 1 := rfl
 have h3 : ((ks.len : Int) != 1) = false := by have := HLN.out; simp [this]
 clear hb2 hb
 go_region_held3 (fun W => W.cell? ⟨w.heap.size, 0, none⟩ = some (.int .i64 4) ∧ W.cell? ⟨w.heap.size, 4, none⟩ = some (.int .i64 pn) ∧ W.cell? ⟨w.heap.size, 5, none⟩ = some (.slice a ks.len c)) (first | exact ⟨c0, c4, c5⟩ | go_keep) ((first | (go_at_call 208; ((with_reducible refine (refKids_any _ _).mono ?_)); rintro _ wK ⟨rfl, rfl⟩) | (go_at_call 96; ((with_reducible refine (refIn_any _ _ _ _).mono ?_)); rintro _ wK ⟨rfl, rfl⟩) | fail))
 go_wp2
 generalize w2.drew = wS at *
 go_loopw [10, 3] (fun i v W => ∃ m nd : Nat, i = .int .i64 m ∧ v = .int .i64 nd ∧ m ≤ ks.len ∧ nd ≤ 12 ∧ refPats srcs (ks.drop m) dp nd = refPats srcs ks dp (nodes + 1) ∧ Below wS.heap.size wS W) (fun i _ _ => ks.len - (intOf i).toNat)
 case atStart => exact ⟨0, nodes + 1, rfl, by go_num, by omega, by omega, by cases ks <;> rfl, Below.refl _ _⟩
 case round =>
  obtain ⟨m, nd, rfl, rfl, hml, hnd, heq, hB⟩ := hrel
  have HL := zH (zA heq hB)
  have g5 := zB hB c5
  clear heq hB
  by_cases hlt : m < ks.len
  ·obtain ⟨o', ⟨ts', tl', th'⟩, n', k', hdc⟩ := drop_cons hlt
   have hrd := HR.out.below HL.out.2
   obtain ⟨a0, c0', he, _, _, hrk⟩ := hrd
   injection he with he1 he2 he3
   obtain ⟨b, off, hab, hbB, hps⟩ := hrk (by omega)
   rw [hab] at he1
   clear hab he2 he3
   have hps2 := hps.drop m (by omega)
   rw [hdc] at hps2
   obtain ⟨⟨q0, q1, q2', q3, q4⟩, ⟨a5, c5', q5, h6, h7, h8⟩, _⟩ := hps2
   have hcnt : k'.cnt < ks.cnt := by
    have h9 := drop_cnt ks m
    rw [hdc, Pats.cnt] at h9
    omega
   have hcall := HIH.out ⟨o', ⟨ts', tl', th'⟩, n', k'⟩ (.slice a5 k'.len c5') dp nd wr hcnt hdp hnd ⟨a5, c5', rfl, h6, h7, h8⟩
   obtain ⟨R, hR⟩ : ∃ R, R = refPat srcs o' ⟨ts', tl', th'⟩ n' k' dp nd := ⟨_, rfl⟩
   have hcall2 : Calls Tryz.prog 148 #[.agg #[.int .i64 o', .int .i64 ts', .int .i64 tl', .int .i64 th', .int .i64 n', .slice a5 k'.len c5'], .int .i64 srcs, .int .i64 dp, .int .i64 nd] wr fun e w' => e = .returned (.int .i64 R) ∧ Below wr.heap.size wr w' := by rw [hR]; exact hcall
   have heq2 := HL.out.1
   rw [hdc, refPats_cons, ← hR] at heq2
   have HC := zH (zA hcall2 heq2)
   have hml1 : (m : Int) < (ks.len : Int) := by omega
   clear hcall hcall2 heq2 hR hps hrk h8 hdc
   subst he1
   by_cases h12 : R ≤ 12
   ·have h12i : ¬ (12 : Int) < (R : Int) := by omega
    go_wp2_with (go_at_call 148; refine HC.out.1.mono ?_; rintro e w4 ⟨rfl, hb4⟩; have g6 := zB hb4 g5)
    go_roundw
    case rel => exact ⟨m + 1, R, by go_num, rfl, by omega, h12, by rw [← HC.out.2, if_neg (by omega)], HL.out.2.trans (hb4.mono HL.out.2.size)⟩
    case measure => simp [intOf]; omega
   ·have h12i : (12 : Int) < (R : Int) := by omega
    go_wp2_with (go_at_call 148; refine HC.out.1.mono ?_; rintro e w4 ⟨rfl, hb4⟩; have g6 := zB hb4 g5)
    go_ret
    exact ⟨ret_int (by rw [← HC.out.2, if_pos (by omega)]; rfl), HB.out.trans ((HL.out.2.trans (hb4.mono HL.out.2.size)).mono HB.out.size)⟩
  ·obtain rfl : m = ks.len := by omega
   have hfin : refPats srcs ks dp (nodes + 1) = nd := by rw [← HL.out.1, drop_nil]; rfl
   have HFN := zH hfin
   clear hfin
   go_wp2
   go_ret
   exact ⟨ret_int (by rw [HFN.out]), HB.out.trans (HL.out.2.mono HB.out.size)⟩
set_option maxHeartbeats 8000000 in
theorem refPat_go5 (hs : 1 ≤ srcs ∧ srcs ≤ 4) (v : Value) (hr : RdK w ks v) (h0 : nodes < 12) (hdp : dp ≤ 6) (hg : nodeP srcs 5 ⟨ts, tl, th⟩ pn ks = true)
 (hIH : ∀ (x : Node) (v : Value) (d n : Nat) (W : World), x.ks.cnt < ks.cnt → d ≤ 6 → n ≤ 12 → RdK W x.ks v → Calls Tryz.prog 148 #[.agg (patA x v), .int .i64 srcs, .int .i64 d, .int .i64 n] W fun e w' => e = .returned (.int .i64 (refPat srcs x.op x.t x.n x.ks d n)) ∧ Below W.heap.size W w') :
 Calls Tryz.prog 148 #[.agg #[.int .i64 5, .int .i64 ts, .int .i64 tl, .int .i64 th, .int .i64 pn, v], .int .i64 srcs, .int .i64 ((dp : Int) + 1), .int .i64 nodes] w fun e w' => e = .returned (.int .i64 (refPats srcs ks dp (nodes + 1))) ∧ Below w.heap.size w w' := by
 have HIH := zH hIH
 clear hIH
 have hP : nodeP srcs 5 ⟨ts, tl, th⟩ pn ks = (decide ((ks.len : Int) = 3) && inP pn 0 200 && decide ((⟨ts, tl, th⟩ : Test) = zeroT) && true && (ks.op2 == some 1)) := rfl
 rw [hP] at hg
 clear hP
 simp only [Bool.and_eq_true, decide_eq_true_eq, zeroT, Test.mk.injEq, beq_iff_eq, and_true] at hg
 obtain ⟨⟨⟨hl, hin⟩, rfl, rfl, rfl⟩, hop2⟩ := hg
 have HLN := zH hl
 clear hl
 have HR := zH hr
 obtain ⟨a, c, rfl, hcc, hcl, _⟩ := hr
 go_enter Tryz.func148, Tryz.ntmps148
 go_wp2_with fail
 refine zX (G := fun W => Code.wp _ _ _ _ W) w _ _ fun w2 hb hz hx => ?_
 have c0 : w2.cell? ⟨w.heap.size, 0, none⟩ = some (.int .i64 5) := zC hx 0
 have c1 : w2.cell? ⟨w.heap.size, 1, none⟩ = some (.int .i64 0) := zC hx 1
 have c2 : w2.cell? ⟨w.heap.size, 2, none⟩ = some (.int .i64 0) := zC hx 2
 have c3 : w2.cell? ⟨w.heap.size, 3, none⟩ = some (.int .i64 0) := zC hx 3
 have c4 : w2.cell? ⟨w.heap.size, 4, none⟩ = some (.int .i64 pn) := zC hx 4
 have c5 : w2.cell? ⟨w.heap.size, 5, none⟩ = some (.slice a ks.len c) := zC hx 5
 clear hx hz
 have HB := zH (hb.trans ((Below.refl w2.heap.size w2).drew.mono hb.size))
 have hb2 : Below w2.heap.size w2 w2.drew := (Below.refl _ _).drew
 replace c0 := zB hb2 c0
 replace c1 := zB hb2 c1
 replace c2 := zB hb2 c2
 replace c3 := zB hb2 c3
 replace c4 := zB hb2 c4
 replace c5 := zB hb2 c5
 replace HR := zH ((HR.out.below hb).below hb2)
 have h1 : ¬ (12 : Int) ≤ (nodes : Int) := by omega
 have h2 : ((dp : Int) + 1 == 0) = false := by simp; omega
 have h2' : ¬ (dp : Int) + 1 = 0 := by omega
 have hw1 : IntKind.i64.wrap ((dp : Int) + 1 - 1) = (dp : Int) := by rw [Go.IntWalk.i64_in _ (by omega)]; omega
 have hw3 : IntKind.i64.wrap (dp : Int) = (dp : Int) := Go.IntWalk.i64_in _ (by omega)
 have hw2 : IntKind.i64.wrap ((nodes : Int) + 1) = (nodes : Int) + 1 := Go.IntWalk.i64_in _ (by omega)
 have hkq : kidsP 5 = 3 := rfl
 have h3 : ((ks.len : Int) != 3) = false := by have := HLN.out; simp [this]
 obtain ⟨b5, off5, ha5, q2⟩ : ∃ b off, a = some ⟨b, off, none⟩ ∧ w2.drew.cell? ⟨b, off + 6, none⟩ = some (.int .i64 1) := by
  have hl := HLN.out
  match ks, hl, HR.out, hop2 with
  | .cons o1 t1 n1 k1 (.cons o2 t2 n2 k2 r), _, ⟨a', c', he, _, _, h⟩, h5 =>
   obtain ⟨b, off, rfl, _, hp⟩ := h (by simp [Pats.len])
   injection he with h1 _ _
   have h6 : o2 = 1 := by simpa [Pats.op2] using h5
   subst h6
   exact ⟨b, off, h1, hp.2.2.1.1⟩
 subst ha5
 have hl3 : (1 : Int) < (ks.len : Int) := by have := HLN.out; omega
 clear hop2
 clear hb2 hb
 go_region_held3 (fun W => W.cell? ⟨w.heap.size, 0, none⟩ = some (.int .i64 5) ∧ W.cell? ⟨w.heap.size, 4, none⟩ = some (.int .i64 pn) ∧ W.cell? ⟨w.heap.size, 5, none⟩ = some (.slice (some ⟨b5, off5, none⟩) ks.len c)) (first | exact ⟨c0, c4, c5⟩ | go_keep) ((first | (go_at_call 208; ((with_reducible refine (refKids_any _ _).mono ?_)); rintro _ wK ⟨rfl, rfl⟩) | (go_at_call 96; ((with_reducible refine (refIn_any _ _ _ _).mono ?_)); rintro _ wK ⟨rfl, rfl⟩) | fail))
 go_wp2
 generalize w2.drew = wS at *
 go_loopw [10, 3] (fun i v W => ∃ m nd : Nat, i = .int .i64 m ∧ v = .int .i64 nd ∧ m ≤ ks.len ∧ nd ≤ 12 ∧ refPats srcs (ks.drop m) dp nd = refPats srcs ks dp (nodes + 1) ∧ Below wS.heap.size wS W) (fun i _ _ => ks.len - (intOf i).toNat)
 case atStart => exact ⟨0, nodes + 1, rfl, by go_num, by omega, by omega, by cases ks <;> rfl, Below.refl _ _⟩
 case round =>
  obtain ⟨m, nd, rfl, rfl, hml, hnd, heq, hB⟩ := hrel
  have HL := zH (zA heq hB)
  have g5 := zB hB c5
  clear heq hB
  by_cases hlt : m < ks.len
  ·obtain ⟨o', ⟨ts', tl', th'⟩, n', k', hdc⟩ := drop_cons hlt
   have hrd := HR.out.below HL.out.2
   obtain ⟨a0, c0', he, _, _, hrk⟩ := hrd
   injection he with he1 he2 he3
   obtain ⟨b, off, hab, hbB, hps⟩ := hrk (by omega)
   rw [hab] at he1
   clear hab he2 he3
   have hps2 := hps.drop m (by omega)
   rw [hdc] at hps2
   obtain ⟨⟨q0, q1, q2', q3, q4⟩, ⟨a5, c5', q5, h6, h7, h8⟩, _⟩ := hps2
   have hcnt : k'.cnt < ks.cnt := by
    have h9 := drop_cnt ks m
    rw [hdc, Pats.cnt] at h9
    omega
   have hcall := HIH.out ⟨o', ⟨ts', tl', th'⟩, n', k'⟩ (.slice a5 k'.len c5') dp nd wr hcnt hdp hnd ⟨a5, c5', rfl, h6, h7, h8⟩
   obtain ⟨R, hR⟩ : ∃ R, R = refPat srcs o' ⟨ts', tl', th'⟩ n' k' dp nd := ⟨_, rfl⟩
   have hcall2 : Calls Tryz.prog 148 #[.agg #[.int .i64 o', .int .i64 ts', .int .i64 tl', .int .i64 th', .int .i64 n', .slice a5 k'.len c5'], .int .i64 srcs, .int .i64 dp, .int .i64 nd] wr fun e w' => e = .returned (.int .i64 R) ∧ Below wr.heap.size wr w' := by rw [hR]; exact hcall
   have heq2 := HL.out.1
   rw [hdc, refPats_cons, ← hR] at heq2
   have HC := zH (zA hcall2 heq2)
   have hml1 : (m : Int) < (ks.len : Int) := by omega
   clear hcall hcall2 heq2 hR hps hrk h8 hdc
   injection he1 with he1
   injection he1 with he3 he4
   subst he3
   subst he4
   by_cases h12 : R ≤ 12
   ·have h12i : ¬ (12 : Int) < (R : Int) := by omega
    go_wp2_with (go_at_call 148; refine HC.out.1.mono ?_; rintro e w4 ⟨rfl, hb4⟩; have g6 := zB hb4 g5)
    go_roundw
    case rel => exact ⟨m + 1, R, by go_num, rfl, by omega, h12, by rw [← HC.out.2, if_neg (by omega)], HL.out.2.trans (hb4.mono HL.out.2.size)⟩
    case measure => simp [intOf]; omega
   ·have h12i : (12 : Int) < (R : Int) := by omega
    go_wp2_with (go_at_call 148; refine HC.out.1.mono ?_; rintro e w4 ⟨rfl, hb4⟩; have g6 := zB hb4 g5)
    go_ret
    exact ⟨ret_int (by rw [← HC.out.2, if_pos (by omega)]; rfl), HB.out.trans ((HL.out.2.trans (hb4.mono HL.out.2.size)).mono HB.out.size)⟩
  ·obtain rfl : m = ks.len := by omega
   have hfin : refPats srcs ks dp (nodes + 1) = nd := by rw [← HL.out.1, drop_nil]; rfl
   have HFN := zH hfin
   clear hfin
   go_wp2
   go_ret
   exact ⟨ret_int (by rw [HFN.out]), HB.out.trans (HL.out.2.mono HB.out.size)⟩
end
end
end Go.Proofs.YtgiploddoffmjaaGreat
