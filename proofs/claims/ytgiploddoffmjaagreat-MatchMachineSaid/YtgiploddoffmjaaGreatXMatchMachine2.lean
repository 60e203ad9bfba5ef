/- My texts, joined: W4. -/
import Derived.Below
import Derived.BigQuiet
import Derived.Deep.AppendLies
import Derived.Deep.DeepCutAuto
import Derived.Deep.QuietTactic
import Derived.Deep.RegionHeld
import Derived.Deep.RegionHeld3
import Derived.Deep.RegionLaw
import Derived.KernelRfl
import Derived.Laws.AppendOwn
import Derived.Laws.AppendOwnNone
import Derived.Laws.CopyRow
import Derived.Lib.Hide
import Derived.LoopIn
import Derived.LoopNIn
import Derived.LoopTactic
import Derived.Maps.AppendAt
import Derived.Outline
import Derived.OwnWalk
import Derived.OwnWalkIn
import Derived.RangeFuncBound
import Derived.RangeFuncCalls
import Derived.RangeFuncLeaves
import Derived.RangeFuncNested
import Derived.Shelf.Abstract
import Derived.Shelf.RegionOpen
import Derived.TacticsInMore
import Derived.Test.YtgiploddoffmjaaGreatProg
import Derived.WalkKit
import Derived.WalkSpells
import Derived.Test.YtgiploddoffmjaaGreatM0
import Derived.Test.YtgiploddoffmjaaGreatM1
import Derived.Test.YtgiploddoffmjaaGreatM2
import Derived.Test.YtgiploddoffmjaaGreatM3
import Derived.Test.YtgiploddoffmjaaGreatM4
import Derived.Test.YtgiploddoffmjaaGreatM5
import Derived.Test.YtgiploddoffmjaaGreatXMatchMachine1
set_option linter.unusedVariables false
set_option linter.unusedSimpArgs false
set_option linter.unusedSectionVars false
set_option maxRecDepth 10000
namespace Go.Proofs.YtgiploddoffmjaaGreat
section
open Go.RowKit Go.Shelf
attribute [local go_sem] Oper.semAt_some
theorem step_call_w {P : Program} {ops : Array Oper} {o : Oper} {a : Act} {w : World} {K : Act → World → Prop} {Q : Exit → Act → World → Prop} {E : Prop} (hw : Region.wanted o (yielded ops a.tmps) = true) (f : FuncId) (fargs : Array Operand) (tys : Array TypeId)
 (ho : o.op = .call { callee := .value (.func f), args := fargs, argTypes := tys }) (he : ∀ args w, (callFunc f args).run P w = .ok (.enter f args) w) (args : Array Value) (hargs' : fargs.toList.map a.eval = args.toList)
 {R : Ending → World → Prop} (hc : Calls P f args w R) (h : ∀ e w', R e w' → ∃ v, e = .returned v ∧ K (a.put o.dst v) w') :
 if Region.wanted o (yielded ops a.tmps) = true then Oper.wp P o a w K Q else E := by
 rw [if_pos hw]
 have h1 := step_call (E := True) (ops := #[]) (o := { o with guard := none }) (Q := Q) rfl f fargs tys ho he args hargs' hc h
 have hw1 : Region.wanted { o with guard := none } (yielded #[] a.tmps) = true := by simp [Region.wanted]
 rw [if_pos hw1] at h1
 exact h1
section
variable (srcs op : Int) (ts tl th pn : Int) (ks : Pats) (deep nodes : Nat) (w : World)
set_option maxHeartbeats 4000000 in
theorem refPat_full (v : Value) (hv : ∃ a c, v = .slice a ks.len c) (h : 12 ≤ nodes) : Calls Tryz.prog 148 #[.agg #[.int .i64 op, .int .i64 ts, .int .i64 tl, .int .i64 th, .int .i64 pn, v], .int .i64 srcs, .int .i64 deep, .int .i64 nodes] w fun e w' => e = .returned (.int .i64 13) ∧ Below w.heap.size w w' := by
 obtain ⟨a, c, rfl⟩ := hv
 go_enter Tryz.func148, Tryz.ntmps148
 go_wp2_with fail
 refine zX (G := fun W => Code.wp _ _ _ _ W) w _ _ fun w2 hb hz hx => ?_
 have c0 : w2.cell? ⟨w.heap.size, 0, none⟩ = some (.int .i64 op) := zC hx 0
 have c1 : w2.cell? ⟨w.heap.size, 1, none⟩ = some (.int .i64 ts) := zC hx 1
 have c2 : w2.cell? ⟨w.heap.size, 2, none⟩ = some (.int .i64 tl) := zC hx 2
 have c3 : w2.cell? ⟨w.heap.size, 3, none⟩ = some (.int .i64 th) := zC hx 3
 have c4 : w2.cell? ⟨w.heap.size, 4, none⟩ = some (.int .i64 pn) := zC hx 4
 have c5 : w2.cell? ⟨w.heap.size, 5, none⟩ = some (.slice a ks.len c) := zC hx 5
 clear hx hz
 have HB := zH (hb.trans ((Below.refl w2.heap.size w2).drew.mono hb.size))
 have hb2 : Below w2.heap.size w2 w2.drew := (Below.refl _ _).drew
 replace c0 := zB hb2 c0
 replace c1 := zB hb2 c1
 replace c2 := zB hb2 c2
 replace c3 := zB hb2 c3
 replace c4 := zB hb2 c4
 replace c5 := zB hb2 c5
 have h1 : (12 : Int) ≤ (nodes : Int) := by omega
 try refine wp_region_noPanic ?_
 refine wp_region_held_drew (S := fun W => True) (by kernel_rfl) trivial (fun hHeld => ?_)
 refine takeI 0 (h := ?_)
 refine takeI 1 (h := ?_)
 refine takeI 2 (h := ?_)
 refine takeS 3 (h := ?_)
 refine takeS 4 (h := ?_)
 refine takeI 5 (h := ?_)
 refine takeI 6 (h := ?_)
 refine takeS 7 (h := ?_)
 refine takeS 8 (h := ?_)
 refine takeS 9 (h := ?_)
 refine takeS 10 (h := ?_)
 refine takeS 11 (h := ?_)
 refine takeS 12 (h := ?_)
 refine takeS 13 (h := ?_)
 refine takeI 14 (h := ?_)
 refine takeI 15 (h := ?_)
 refine takeS 16 (h := ?_)
 refine takeS 17 (h := ?_)
 refine takeS 18 (h := ?_)
 refine takeS 19 (h := ?_)
 refine takeI 20 (h := ?_)
 refine wpAnyH_done (by kernel_rfl) ?_ _
 try refine NoPanic.normal ?_
 go_wp2
 go_ret
 exact ⟨rfl, HB.out⟩
set_option maxHeartbeats 4000000 in
theorem refPat_deep (v : Value) (hv : ∃ a c, v = .slice a ks.len c) (h0 : nodes < 12) (h : deep = 0) : Calls Tryz.prog 148 #[.agg #[.int .i64 op, .int .i64 ts, .int .i64 tl, .int .i64 th, .int .i64 pn, v], .int .i64 srcs, .int .i64 deep, .int .i64 nodes] w fun e w' => e = .returned (.int .i64 13) ∧ Below w.heap.size w w' := by
 obtain ⟨a, c, rfl⟩ := hv
 go_enter Tryz.func148, Tryz.ntmps148
 go_wp2_with fail
 refine zX (G := fun W => Code.wp _ _ _ _ W) w _ _ fun w2 hb hz hx => ?_
 have c0 : w2.cell? ⟨w.heap.size, 0, none⟩ = some (.int .i64 op) := zC hx 0
 have c1 : w2.cell? ⟨w.heap.size, 1, none⟩ = some (.int .i64 ts) := zC hx 1
 have c2 : w2.cell? ⟨w.heap.size, 2, none⟩ = some (.int .i64 tl) := zC hx 2
 have c3 : w2.cell? ⟨w.heap.size, 3, none⟩ = some (.int .i64 th) := zC hx 3
 have c4 : w2.cell? ⟨w.heap.size, 4, none⟩ = some (.int .i64 pn) := zC hx 4
 have c5 : w2.cell? ⟨w.heap.size, 5, none⟩ = some (.slice a ks.len c) := zC hx 5
 clear hx hz
 have HB := zH (hb.trans ((Below.refl w2.heap.size w2).drew.mono hb.size))
 have hb2 : Below w2.heap.size w2 w2.drew := (Below.refl _ _).drew
 replace c0 := zB hb2 c0
 replace c1 := zB hb2 c1
 replace c2 := zB hb2 c2
 replace c3 := zB hb2 c3
 replace c4 := zB hb2 c4
 replace c5 := zB hb2 c5
 subst h
 have h1 : ¬ (12 : Int) ≤ (nodes : Int) := by omega
 try refine wp_region_noPanic ?_
 refine wp_region_held_drew (S := fun W => True) (by kernel_rfl) trivial (fun hHeld => ?_)
 refine takeI 0 (h := ?_)
 refine takeI 1 (h := ?_)
 refine takeI 2 (h := ?_)
 refine takeI 3 (h := ?_)
 refine takeI 4 (h := ?_)
 refine takeI 5 (h := ?_)
 refine takeI 6 (h := ?_)
 refine takeS 7 (h := ?_)
 refine takeS 8 (h := ?_)
 refine takeS 9 (h := ?_)
 refine takeS 10 (h := ?_)
 refine takeS 11 (h := ?_)
 refine takeS 12 (h := ?_)
 refine takeS 13 (h := ?_)
 refine takeI 14 (h := ?_)
 refine takeI 15 (h := ?_)
 refine takeS 16 (h := ?_)
 refine takeS 17 (h := ?_)
 refine takeS 18 (h := ?_)
 refine takeS 19 (h := ?_)
 refine takeI 20 (h := ?_)
 refine wpAnyH_done (by kernel_rfl) ?_ _
 try refine NoPanic.normal ?_
 go_wp2
 go_ret
 exact ⟨rfl, HB.out⟩
set_option maxHeartbeats 4000000 in
theorem refPat_len (v : Value) (hv : ∃ a c, v = .slice a ks.len c) (h0 : nodes < 12) (hd : deep ≠ 0) (h : (ks.len : Int) ≠ kidsP op) : Calls Tryz.prog 148 #[.agg #[.int .i64 op, .int .i64 ts, .int .i64 tl, .int .i64 th, .int .i64 pn, v], .int .i64 srcs, .int .i64 deep, .int .i64 nodes] w fun e w' => e = .returned (.int .i64 13) ∧ Below w.heap.size w w' := by
 obtain ⟨a, c, rfl⟩ := hv
 go_enter Tryz.func148, Tryz.ntmps148
 go_wp2_with fail
 refine zX (G := fun W => Code.wp _ _ _ _ W) w _ _ fun w2 hb hz hx => ?_
 have c0 : w2.cell? ⟨w.heap.size, 0, none⟩ = some (.int .i64 op) := zC hx 0
 have c1 : w2.cell? ⟨w.heap.size, 1, none⟩ = some (.int .i64 ts) := zC hx 1
 have c2 : w2.cell? ⟨w.heap.size, 2, none⟩ = some (.int .i64 tl) := zC hx 2
 have c3 : w2.cell? ⟨w.heap.size, 3, none⟩ = some (.int .i64 th) := zC hx 3
 have c4 : w2.cell? ⟨w.heap.size, 4, none⟩ = some (.int .i64 pn) := zC hx 4
 have c5 : w2.cell? ⟨w.heap.size, 5, none⟩ = some (.slice a ks.len c) := zC hx 5
 clear hx hz
 have HB := zH (hb.trans ((Below.refl w2.heap.size w2).drew.mono hb.size))
 have hb2 : Below w2.heap.size w2 w2.drew := (Below.refl _ _).drew
 replace c0 := zB hb2 c0
 replace c1 := zB hb2 c1
 replace c2 := zB hb2 c2
 replace c3 := zB hb2 c3
 replace c4 := zB hb2 c4
 replace c5 := zB hb2 c5
 have h1 : ¬ (12 : Int) ≤ (nodes : Int) := by omega
 have h2 : ((deep : Int) == 0) = false := by simp; omega
 have h2' : ¬ (deep : Int) = 0 := by omega
 have h3 : ((ks.len : Int) != kidsP op) = true := by simp [h]
 have EK := zH (enters_of Tryz.func208 (by kernel_rfl) rfl)
 have HK := zH (fun W : World => show Calls Tryz.prog 208 #[.int .i64 op] W fun e w' => e = .returned (.int .i64 (kidsP op)) ∧ W = w' from refKids_any op W)
 try refine wp_region_noPanic ?_
 refine wp_region_held_drew (S := fun W => W.cell? ⟨w.heap.size, 0, none⟩ = some (.int .i64 op) ∧ W.cell? ⟨w.heap.size, 5, none⟩ = some (.slice a ks.len c)) (by kernel_rfl) ⟨c0, c5⟩ (fun hHeld => ?_)
 refine takeI 0 (h := ?_)
 refine takeI 1 (h := ?_)
 refine takeI 2 (h := ?_)
 refine takeI 3 (h := ?_)
 refine takeI 4 (h := ?_)
 refine takeI 5 (h := ?_)
 refine takeI 6 (h := ?_)
 refine takeI 7 (h := ?_)
 refine takeI 8 (h := ?_)
 refine takeI 9 (h := ?_)
 refine takeI 10 (h := ?_)
 refine takeI 11 (h := ?_)
 refine wpAnyH_ready (rs := [12]) (by kernel_rfl) (by simp) ?_
 refine AllReadyH.cons rfl (fun K hK => ?_) AllReadyH.nil
 refine step_call_w (by rfl) 208 _ _ (by rfl) EK.out _ (by rfl) (HK.out _) ?_
 rintro _ wJ ⟨rfl, rfl⟩
 refine ⟨_, rfl, ?_⟩
 refine hK.out _ _ ⟨c0, c5⟩ (fun hHeld => ?_)
 clear hK K
 try simp only [Act.put, List.setIfInBounds_toArray, List.set_cons_zero, List.set_cons_succ]
 refine takeI 13 (h := ?_)
 refine takeI 14 (h := ?_)
 refine takeI 15 (h := ?_)
 refine takeS 16 (h := ?_)
 refine takeS 17 (h := ?_)
 refine takeS 18 (h := ?_)
 refine takeS 19 (h := ?_)
 refine takeI 20 (h := ?_)
 refine wpAnyH_done (by kernel_rfl) ?_ _
 try refine NoPanic.normal ?_
 go_wp2
 go_ret
 exact ⟨rfl, HB.out⟩
set_option maxHeartbeats 4000000 in
theorem refPat_n (v : Value) (hv : ∃ a c, v = .slice a ks.len c) (h0 : nodes < 12) (hd : deep ≠ 0) (h : (ks.len : Int) = kidsP op) (hn : inP pn 0 200 = false) : Calls Tryz.prog 148 #[.agg #[.int .i64 op, .int .i64 ts, .int .i64 tl, .int .i64 th, .int .i64 pn, v], .int .i64 srcs, .int .i64 deep, .int .i64 nodes] w fun e w' => e = .returned (.int .i64 13) ∧ Below w.heap.size w w' := by
 obtain ⟨a, c, rfl⟩ := hv
 go_enter Tryz.func148, Tryz.ntmps148
 go_wp2_with fail
 refine zX (G := fun W => Code.wp _ _ _ _ W) w _ _ fun w2 hb hz hx => ?_
 have c0 : w2.cell? ⟨w.heap.size, 0, none⟩ = some (.int .i64 op) := zC hx 0
 have c1 : w2.cell? ⟨w.heap.size, 1, none⟩ = some (.int .i64 ts) := zC hx 1
 have c2 : w2.cell? ⟨w.heap.size, 2, none⟩ = some (.int .i64 tl) := zC hx 2
 have c3 : w2.cell? ⟨w.heap.size, 3, none⟩ = some (.int .i64 th) := zC hx 3
 have c4 : w2.cell? ⟨w.heap.size, 4, none⟩ = some (.int .i64 pn) := zC hx 4
 have c5 : w2.cell? ⟨w.heap.size, 5, none⟩ = some (.slice a ks.len c) := zC hx 5
 clear hx hz
 have HB := zH (hb.trans ((Below.refl w2.heap.size w2).drew.mono hb.size))
 have hb2 : Below w2.heap.size w2 w2.drew := (Below.refl _ _).drew
 replace c0 := zB hb2 c0
 replace c1 := zB hb2 c1
 replace c2 := zB hb2 c2
 replace c3 := zB hb2 c3
 replace c4 := zB hb2 c4
 replace c5 := zB hb2 c5
 have h1 : ¬ (12 : Int) ≤ (nodes : Int) := by omega
 have h2 : ((deep : Int) == 0) = false := by simp; omega
 have h2' : ¬ (deep : Int) = 0 := by omega
 have h3 : ((ks.len : Int) != kidsP op) = false := by simp [h]
 clear h hb2 hb
 go_region_held3 (fun W => W.cell? ⟨w.heap.size, 0, none⟩ = some (.int .i64 op) ∧ W.cell? ⟨w.heap.size, 4, none⟩ = some (.int .i64 pn) ∧ W.cell? ⟨w.heap.size, 5, none⟩ = some (.slice a ks.len c)) (first | exact ⟨c0, c4, c5⟩ | go_keep) ((first | (go_at_call 208; ((with_reducible refine (refKids_any _ _).mono ?_)); rintro _ wK ⟨rfl, rfl⟩) | (go_at_call 96; ((with_reducible refine (refIn_any _ _ _ _).mono ?_)); rintro _ wK ⟨rfl, rfl⟩) | fail))
 all_goals (go_wp2; go_ret; exact ⟨rfl, HB.out⟩)
set_option maxHeartbeats 8000000 in
theorem refPat_bad1 (hs : 1 ≤ srcs ∧ srcs ≤ 4) (v : Value) (hr : RdK w ks v) (h0 : nodes < 12) (hd : deep ≠ 0) (hl : ks.len = 0) (hn : inP pn 0 200 = true) (hg : nodeP srcs 1 ⟨ts, tl, th⟩ pn ks = false) : Calls Tryz.prog 148 #[.agg #[.int .i64 1, .int .i64 ts, .int .i64 tl, .int .i64 th, .int .i64 pn, v], .int .i64 srcs, .int .i64 deep, .int .i64 nodes] w fun e w' => e = .returned (.int .i64 13) ∧ Below w.heap.size w w' := by
 have HP := zH (show nodeP srcs 1 ⟨ts, tl, th⟩ pn ks = (decide ((ks.len : Int) = 0) && inP pn 0 200 && isTestP ⟨ts, tl, th⟩ srcs && decide (pn = 0) && true) from rfl)
 have HG := zH (zA hg hn)
 clear hg
 have HR := zH hr
 obtain ⟨a, c, rfl, _, _, _⟩ := hr
 have HLN := zH hl
 clear hl
 go_enter Tryz.func148, Tryz.ntmps148
 go_wp2_with fail
 refine zX (G := fun W => Code.wp _ _ _ _ W) w _ _ fun w2 hb hz hx => ?_
 have c0 : w2.cell? ⟨w.heap.size, 0, none⟩ = some (.int .i64 1) := zC hx 0
 have c1 : w2.cell? ⟨w.heap.size, 1, none⟩ = some (.int .i64 ts) := zC hx 1
 have c2 : w2.cell? ⟨w.heap.size, 2, none⟩ = some (.int .i64 tl) := zC hx 2
 have c3 : w2.cell? ⟨w.heap.size, 3, none⟩ = some (.int .i64 th) := zC hx 3
 have c4 : w2.cell? ⟨w.heap.size, 4, none⟩ = some (.int .i64 pn) := zC hx 4
 have c5 : w2.cell? ⟨w.heap.size, 5, none⟩ = some (.slice a ks.len c) := zC hx 5
 clear hx hz
 have HB := zH (hb.trans ((Below.refl w2.heap.size w2).drew.mono hb.size))
 have hb2 : Below w2.heap.size w2 w2.drew := (Below.refl _ _).drew
 replace c0 := zB hb2 c0
 replace c1 := zB hb2 c1
 replace c2 := zB hb2 c2
 replace c3 := zB hb2 c3
 replace c4 := zB hb2 c4
 replace c5 := zB hb2 c5
 have hl := HLN.out
 replace HR := zH ((HR.out.below hb).below hb2)
 have h1 : ¬ (12 : Int) ≤ (nodes : Int) := by omega
 have h2 : ((deep : Int) == 0) = false := by simp; omega
 have h2' : ¬ (deep : Int) = 0 := by omega
 have hkq : kidsP 1 = 0 := rfl
 have h3 : ((ks.len : Int) != 0) = false := by simp [hl]
 clear HR hb2 hb
 go_region_held3 (fun W => W.cell? ⟨w.heap.size, 0, none⟩ = some (.int .i64 1) ∧ W.cell? ⟨w.heap.size, 4, none⟩ = some (.int .i64 pn) ∧ W.cell? ⟨w.heap.size, 5, none⟩ = some (.slice a ks.len c)) (first | exact ⟨c0, c4, c5⟩ | go_keep) ((first | (go_at_call 208; ((with_reducible refine (refKids_any _ _).mono ?_)); rintro _ wK ⟨rfl, rfl⟩) | (go_at_call 96; ((with_reducible refine (refIn_any _ _ _ _).mono ?_)); rintro _ wK ⟨rfl, rfl⟩) | fail))
 all_goals
  go_wp2_with (go_at_call 101; refine (refTest_any ⟨ts, tl, th⟩ srcs hs _).mono ?_; rintro e w9 ⟨rfl, hb9⟩; have d0 := zB hb9 c0; have d4 := zB hb9 c4; have d5 := zB hb9 c5)
 all_goals first
  | (go_ret; first | exact ⟨rfl, HB.out⟩ | exact ⟨rfl, HB.out.trans (hb9.mono HB.out.size)⟩)
  | (exfalso; have hgf := HG.out.1; have hgn := HG.out.2; rw [HP.out] at hgf; simp only [inP, zeroT, Test.mk.injEq] at *; grind)
set_option maxHeartbeats 8000000 in
theorem refPat_bad2 (hs : 1 ≤ srcs ∧ srcs ≤ 4) (v : Value) (hr : RdK w ks v) (h0 : nodes < 12) (hd : deep ≠ 0) (hl : ks.len = 2) (hn : inP pn 0 200 = true) (hg : nodeP srcs 2 ⟨ts, tl, th⟩ pn ks = false) : Calls Tryz.prog 148 #[.agg #[.int .i64 2, .int .i64 ts, .int .i64 tl, .int .i64 th, .int .i64 pn, v], .int .i64 srcs, .int .i64 deep, .int .i64 nodes] w fun e w' => e = .returned (.int .i64 13) ∧ Below w.heap.size w w' := by
 have HP := zH (show nodeP srcs 2 ⟨ts, tl, th⟩ pn ks = (decide ((ks.len : Int) = 2) && inP pn 0 200 && decide ((⟨ts, tl, th⟩ : Test) = zeroT) && true && true) from rfl)
 have HG := zH (zA hg hn)
 clear hg
 have HR := zH hr
 obtain ⟨a, c, rfl, _, _, _⟩ := hr
 have HLN := zH hl
 clear hl
 go_enter Tryz.func148, Tryz.ntmps148
 go_wp2_with fail
 refine zX (G := fun W => Code.wp _ _ _ _ W) w _ _ fun w2 hb hz hx => ?_
 have c0 : w2.cell? ⟨w.heap.size, 0, none⟩ = some (.int .i64 2) := zC hx 0
 have c1 : w2.cell? ⟨w.heap.size, 1, none⟩ = some (.int .i64 ts) := zC hx 1
 have c2 : w2.cell? ⟨w.heap.size, 2, none⟩ = some (.int .i64 tl) := zC hx 2
 have c3 : w2.cell? ⟨w.heap.size, 3, none⟩ = some (.int .i64 th) := zC hx 3
 have c4 : w2.cell? ⟨w.heap.size, 4, none⟩ = some (.int .i64 pn) := zC hx 4
 have c5 : w2.cell? ⟨w.heap.size, 5, none⟩ = some (.slice a ks.len c) := zC hx 5
 clear hx hz
 have HB := zH (hb.trans ((Below.refl w2.heap.size w2).drew.mono hb.size))
 have hb2 : Below w2.heap.size w2 w2.drew := (Below.refl _ _).drew
 replace c0 := zB hb2 c0
 replace c1 := zB hb2 c1
 replace c2 := zB hb2 c2
 replace c3 := zB hb2 c3
 replace c4 := zB hb2 c4
 replace c5 := zB hb2 c5
 have hl := HLN.out
 replace HR := zH ((HR.out.below hb).below hb2)
 have h1 : ¬ (12 : Int) ≤ (nodes : Int) := by omega
 have h2 : ((deep : Int) == 0) = false := by simp; omega
 have h2' : ¬ (deep : Int) = 0 := by omega
 have hkq : kidsP 2 = 2 := rfl
 have h3 : ((ks.len : Int) != 2) = false := by simp [hl]
 clear HR hb2 hb
 go_region_held3 (fun W => W.cell? ⟨w.heap.size, 0, none⟩ = some (.int .i64 2) ∧ W.cell? ⟨w.heap.size, 4, none⟩ = some (.int .i64 pn) ∧ W.cell? ⟨w.heap.size, 5, none⟩ = some (.slice a ks.len c)) (first | exact ⟨c0, c4, c5⟩ | go_keep) ((first | (go_at_call 208; ((with_reducible refine (refKids_any _ _).mono ?_)); rintro _ wK ⟨rfl, rfl⟩) | (go_at_call 96; ((with_reducible refine (refIn_any _ _ _ _).mono ?_)); rintro _ wK ⟨rfl, rfl⟩) | fail))
 all_goals
  go_wp2_with (go_at_call 101; refine (refTest_any ⟨ts, tl, th⟩ srcs hs _).mono ?_; rintro e w9 ⟨rfl, hb9⟩; have d0 := zB hb9 c0; have d4 := zB hb9 c4; have d5 := zB hb9 c5)
 all_goals first
  | (go_ret; first | exact ⟨rfl, HB.out⟩ | exact ⟨rfl, HB.out.trans (hb9.mono HB.out.size)⟩)
  | (exfalso; have hgf := HG.out.1; have hgn := HG.out.2; rw [HP.out] at hgf; simp only [inP, zeroT, Test.mk.injEq] at *; grind)
set_option maxHeartbeats 8000000 in
theorem refPat_bad3 (hs : 1 ≤ srcs ∧ srcs ≤ 4) (v : Value) (hr : RdK w ks v) (h0 : nodes < 12) (hd : deep ≠ 0) (hl : ks.len = 2) (hn : inP pn 0 200 = true) (hg : nodeP srcs 3 ⟨ts, tl, th⟩ pn ks = false) : Calls Tryz.prog 148 #[.agg #[.int .i64 3, .int .i64 ts, .int .i64 tl, .int .i64 th, .int .i64 pn, v], .int .i64 srcs, .int .i64 deep, .int .i64 nodes] w fun e w' => e = .returned (.int .i64 13) ∧ Below w.heap.size w w' := by
 have HP := zH (show nodeP srcs 3 ⟨ts, tl, th⟩ pn ks = (decide ((ks.len : Int) = 2) && inP pn 0 200 && decide ((⟨ts, tl, th⟩ : Test) = zeroT) && decide (pn = 0) && true) from rfl)
 have HG := zH (zA hg hn)
 clear hg
 have HR := zH hr
 obtain ⟨a, c, rfl, _, _, _⟩ := hr
 have HLN := zH hl
 clear hl
 go_enter Tryz.func148, Tryz.ntmps148
 go_wp2_with fail
 refine zX (G := fun W => Code.wp _ _ _ _ W) w _ _ fun w2 hb hz hx => ?_
 have c0 : w2.cell? ⟨w.heap.size, 0, none⟩ = some (.int .i64 3) := zC hx 0
 have c1 : w2.cell? ⟨w.heap.size, 1, none⟩ = some (.int .i64 ts) := zC hx 1
 have c2 : w2.cell? ⟨w.heap.size, 2, none⟩ = some (.int .i64 tl) := zC hx 2
 have c3 : w2.cell? ⟨w.heap.size, 3, none⟩ = some (.int .i64 th) := zC hx 3
 have c4 : w2.cell? ⟨w.heap.size, 4, none⟩ = some (.int .i64 pn) := zC hx 4
 have c5 : w2.cell? ⟨w.heap.size, 5, none⟩ = some (.slice a ks.len c) := zC hx 5
 clear hx hz
 have HB := zH (hb.trans ((Below.refl w2.heap.size w2).drew.mono hb.size))
 have hb2 : Below w2.heap.size w2 w2.drew := (Below.refl _ _).drew
 replace c0 := zB hb2 c0
 replace c1 := zB hb2 c1
 replace c2 := zB hb2 c2
 replace c3 := zB hb2 c3
 replace c4 := zB hb2 c4
 replace c5 := zB hb2 c5
 have hl := HLN.out
 replace HR := zH ((HR.out.below hb).below hb2)
 have h1 : ¬ (12 : Int) ≤ (nodes : Int) := by omega
 have h2 : ((deep : Int) == 0) = false := by simp; omega
 have h2' : ¬ (deep : Int) = 0 := by omega
 have hkq : kidsP 3 = 2 := rfl
 have h3 : ((ks.len : Int) != 2) = false := by simp [hl]
 clear HR hb2 hb
 go_region_held3 (fun W => W.cell? ⟨w.heap.size, 0, none⟩ = some (.int .i64 3) ∧ W.cell? ⟨w.heap.size, 4, none⟩ = some (.int .i64 pn) ∧ W.cell? ⟨w.heap.size, 5, none⟩ = some (.slice a ks.len c)) (first | exact ⟨c0, c4, c5⟩ | go_keep) ((first | (go_at_call 208; ((with_reducible refine (refKids_any _ _).mono ?_)); rintro _ wK ⟨rfl, rfl⟩) | (go_at_call 96; ((with_reducible refine (refIn_any _ _ _ _).mono ?_)); rintro _ wK ⟨rfl, rfl⟩) | fail))
 all_goals
  go_wp2_with (go_at_call 101; refine (refTest_any ⟨ts, tl, th⟩ srcs hs _).mono ?_; rintro e w9 ⟨rfl, hb9⟩; have d0 := zB hb9 c0; have d4 := zB hb9 c4; have d5 := zB hb9 c5)
 all_goals first
  | (go_ret; first | exact ⟨rfl, HB.out⟩ | exact ⟨rfl, HB.out.trans (hb9.mono HB.out.size)⟩)
  | (exfalso; have hgf := HG.out.1; have hgn := HG.out.2; rw [HP.out] at hgf; simp only [inP, zeroT, Test.mk.injEq] at *; grind)
set_option maxHeartbeats 8000000 in
theorem refPat_bad4 (hs : 1 ≤ srcs ∧ srcs ≤ 4) (v : Value) (hr : RdK w ks v) (h0 : nodes < 12) (hd : deep ≠ 0) (hl : ks.len = 1) (hn : inP pn 0 200 = true) (hg : nodeP srcs 4 ⟨ts, tl, th⟩ pn ks = false) : Calls Tryz.prog 148 #[.agg #[.int .i64 4, .int .i64 ts, .int .i64 tl, .int .i64 th, .int .i64 pn, v], .int .i64 srcs, .int .i64 deep, .int .i64 nodes] w fun e w' => e = .returned (.int .i64 13) ∧ Below w.heap.size w w' := by
 have HP := zH (show nodeP srcs 4 ⟨ts, tl, th⟩ pn ks = (decide ((ks.len : Int) = 1) && inP pn 0 200 && decide ((⟨ts, tl, th⟩ : Test) = zeroT) && true && true) from rfl)
 have HG := zH (zA hg hn)
 clear hg
 have HR := zH hr
 obtain ⟨a, c, rfl, _, _, _⟩ := hr
 have HLN := zH hl
 clear hl
 go_enter Tryz.func148, Tryz.ntmps148
 go_wp2_with fail
 refine zX (G := fun W => Code.wp _ _ _ _ W) w _ _ fun w2 hb hz hx => ?_
 have c0 : w2.cell? ⟨w.heap.size, 0, none⟩ = some (.int .i64 4) := zC hx 0
 have c1 : w2.cell? ⟨w.heap.size, 1, none⟩ = some (.int .i64 ts) := zC hx 1
 have c2 : w2.cell? ⟨w.heap.size, 2, none⟩ = some (.int .i64 tl) := zC hx 2
 have c3 : w2.cell? ⟨w.heap.size, 3, none⟩ = some (.int .i64 th) := zC hx 3
 have c4 : w2.cell? ⟨w.heap.size, 4, none⟩ = some (.int .i64 pn) := zC hx 4
 have c5 : w2.cell? ⟨w.heap.size, 5, none⟩ = some (.slice a ks.len c) := zC hx 5
 clear hx hz
 have HB := zH (hb.trans ((Below.refl w2.heap.size w2).drew.mono hb.size))
 have hb2 : Below w2.heap.size w2 w2.drew := (Below.refl _ _).drew
 replace c0 := zB hb2 c0
 replace c1 := zB hb2 c1
 replace c2 := zB hb2 c2
 replace c3 := zB hb2 c3
 replace c4 := zB hb2 c4
 replace c5 := zB hb2 c5
 have hl := HLN.out
 replace HR := zH ((HR.out.below hb).below hb2)
 have h1 : ¬ (12 : Int) ≤ (nodes : Int) := by omega
 have h2 : ((deep : Int) == 0) = false := by simp; omega
 have h2' : ¬ (deep : Int) = 0 := by omega
 have hkq : kidsP 4 = 1 := rfl
 have h3 : ((ks.len : Int) != 1) = false := by simp [hl]
 clear HR hb2 hb
 go_region_held3 (fun W => W.cell? ⟨w.heap.size, 0, none⟩ = some (.int .i64 4) ∧ W.cell? ⟨w.heap.size, 4, none⟩ = some (.int .i64 pn) ∧ W.cell? ⟨w.heap.size, 5, none⟩ = some (.slice a ks.len c)) (first | exact ⟨c0, c4, c5⟩ | go_keep) ((first | (go_at_call 208; ((with_reducible refine (refKids_any _ _).mono ?_)); rintro _ wK ⟨rfl, rfl⟩) | (go_at_call 96; ((with_reducible refine (refIn_any _ _ _ _).mono ?_)); rintro _ wK ⟨rfl, rfl⟩) | fail))
 all_goals
  go_wp2_with (go_at_call 101; refine (refTest_any ⟨ts, tl, th⟩ srcs hs _).mono ?_; rintro e w9 ⟨rfl, hb9⟩; have d0 := zB hb9 c0; have d4 := zB hb9 c4; have d5 := zB hb9 c5)
 all_goals first
  | (go_ret; first | exact ⟨rfl, HB.out⟩ | exact ⟨rfl, HB.out.trans (hb9.mono HB.out.size)⟩)
  | (exfalso; have hgf := HG.out.1; have hgn := HG.out.2; rw [HP.out] at hgf; simp only [inP, zeroT, Test.mk.injEq] at *; grind)
set_option maxHeartbeats 8000000 in
theorem refPat_bad5 (hs : 1 ≤ srcs ∧ srcs ≤ 4) (v : Value) (hr : RdK w ks v) (h0 : nodes < 12) (hd : deep ≠ 0) (hl : ks.len = 3) (hn : inP pn 0 200 = true) (hg : nodeP srcs 5 ⟨ts, tl, th⟩ pn ks = false) : Calls Tryz.prog 148 #[.agg #[.int .i64 5, .int .i64 ts, .int .i64 tl, .int .i64 th, .int .i64 pn, v], .int .i64 srcs, .int .i64 deep, .int .i64 nodes] w fun e w' => e = .returned (.int .i64 13) ∧ Below w.heap.size w w' := by
 have HP := zH (show nodeP srcs 5 ⟨ts, tl, th⟩ pn ks = (decide ((ks.len : Int) = 3) && inP pn 0 200 && decide ((⟨ts, tl, th⟩ : Test) = zeroT) && true && (ks.op2 == some 1)) from rfl)
 have HG := zH (zA hg hn)
 clear hg
 have HR := zH hr
 obtain ⟨a, c, rfl, _, _, _⟩ := hr
 have HLN := zH hl
 clear hl
 go_enter Tryz.func148, Tryz.ntmps148
 go_wp2_with fail
 refine zX (G := fun W => Code.wp _ _ _ _ W) w _ _ fun w2 hb hz hx => ?_
 have c0 : w2.cell? ⟨w.heap.size, 0, none⟩ = some (.int .i64 5) := zC hx 0
 have c1 : w2.cell? ⟨w.heap.size, 1, none⟩ = some (.int .i64 ts) := zC hx 1
 have c2 : w2.cell? ⟨w.heap.size, 2, none⟩ = some (.int .i64 tl) := zC hx 2
 have c3 : w2.cell? ⟨w.heap.size, 3, none⟩ = some (.int .i64 th) := zC hx 3
 have c4 : w2.cell? ⟨w.heap.size, 4, none⟩ = some (.int .i64 pn) := zC hx 4
 have c5 : w2.cell? ⟨w.heap.size, 5, none⟩ = some (.slice a ks.len c) := zC hx 5
 clear hx hz
 have HB := zH (hb.trans ((Below.refl w2.heap.size w2).drew.mono hb.size))
 have hb2 : Below w2.heap.size w2 w2.drew := (Below.refl _ _).drew
 replace c0 := zB hb2 c0
 replace c1 := zB hb2 c1
 replace c2 := zB hb2 c2
 replace c3 := zB hb2 c3
 replace c4 := zB hb2 c4
 replace c5 := zB hb2 c5
 have hl := HLN.out
 replace HR := zH ((HR.out.below hb).below hb2)
 have h1 : ¬ (12 : Int) ≤ (nodes : Int) := by omega
 have h2 : ((deep : Int) == 0) = false := by simp; omega
 have h2' : ¬ (deep : Int) = 0 := by omega
 have hkq : kidsP 5 = 3 := rfl
 have h3 : ((ks.len : Int) != 3) = false := by simp [hl]
 obtain ⟨o2, hk2, b, off, rfl, q2⟩ : ∃ o2, ks.op2 = some o2 ∧ ∃ b off, a = some ⟨b, off, none⟩ ∧ w2.drew.cell? ⟨b, off + 6, none⟩ = some (.int .i64 o2) := by
  match ks, hl, HR.out with
  | .cons o1 t1 n1 k1 (.cons o2 t2 n2 k2 r), _, ⟨a', c', he, _, _, h⟩ =>
   obtain ⟨b, off, rfl, _, hp⟩ := h (by simp [Pats.len])
   injection he with h1 _ _
   exact ⟨o2, rfl, b, off, h1, hp.2.2.1.1⟩
 have HK2 := zH hk2
 clear hk2
 have hl3 : (1 : Int) < (ks.len : Int) := by omega
 clear HR hb2 hb
 go_region_held3 (fun W => W.cell? ⟨w.heap.size, 0, none⟩ = some (.int .i64 5) ∧ W.cell? ⟨w.heap.size, 4, none⟩ = some (.int .i64 pn) ∧ W.cell? ⟨w.heap.size, 5, none⟩ = some (.slice (some ⟨b, off, none⟩) ks.len c)) (first | exact ⟨c0, c4, c5⟩ | go_keep) ((first | (go_at_call 208; ((with_reducible refine (refKids_any _ _).mono ?_)); rintro _ wK ⟨rfl, rfl⟩) | (go_at_call 96; ((with_reducible refine (refIn_any _ _ _ _).mono ?_)); rintro _ wK ⟨rfl, rfl⟩) | fail))
 all_goals
  go_wp2_with (go_at_call 101; refine (refTest_any ⟨ts, tl, th⟩ srcs hs _).mono ?_; rintro e w9 ⟨rfl, hb9⟩; have d0 := zB hb9 c0; have d4 := zB hb9 c4; have d5 := zB hb9 c5)
 all_goals first
  | (go_ret; first | exact ⟨rfl, HB.out⟩ | exact ⟨rfl, HB.out.trans (hb9.mono HB.out.size)⟩)
  | (exfalso; have hgf := HG.out.1; have hgn := HG.out.2; rw [HP.out, HK2.out] at hgf; simp only [inP, zeroT, Test.mk.injEq] at *; grind)
end
end
end Go.Proofs.YtgiploddoffmjaaGreat
