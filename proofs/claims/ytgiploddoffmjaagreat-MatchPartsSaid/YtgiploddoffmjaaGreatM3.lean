/- My texts, joined: W1. -/
import Derived.Below
import Derived.BigQuiet
import Derived.Deep.AppendLies
import Derived.Deep.DeepCutAuto
import Derived.Deep.QuietTactic
import Derived.Deep.RegionHeld
import Derived.Deep.RegionHeld3
import Derived.Deep.RegionLaw
import Derived.KernelRfl
import Derived.Laws.AppendOwn
import Derived.Laws.AppendOwnNone
import Derived.Laws.CopyRow
import Derived.Lib.Hide
import Derived.LoopTactic
import Derived.Maps.AppendAt
import Derived.Outline
import Derived.OwnWalk
import Derived.Shelf.Abstract
import Derived.TacticsInMore
import Derived.Test.YtgiploddoffmjaaGreatProg
import Derived.WalkKit
import Derived.WalkSpells
import Derived.Test.YtgiploddoffmjaaGreatM0
import Derived.Test.YtgiploddoffmjaaGreatM1
import Derived.Test.YtgiploddoffmjaaGreatM2
set_option linter.unusedVariables false
set_option linter.unusedSimpArgs false
set_option linter.unusedSectionVars false
set_option maxRecDepth 10000
namespace Go.Proofs.YtgiploddoffmjaaGreat
section
open Go.RowKit
set_option maxHeartbeats 4000000 in
theorem node_1 (srcs : Int) (t : Test) (n : Int) (ks : Pats) (v : Value) (hs : 1 ≤ srcs ∧ srcs ≤ 4) (w : World) (hr : RdK w ks v) :
 Calls Tryz.prog 194 #[.agg #[.int .i64 1, .int .i64 t.src, .int .i64 t.low, .int .i64 t.high, .int .i64 n, v], .int .i64 srcs] w fun e w' => e = .returned (.bool (nodeP srcs 1 t n ks)) ∧ Below w.heap.size w w' := by
 have HR := zH hr
 obtain ⟨a, c, rfl, hc1, hc2, _⟩ := hr
 obtain ⟨ts, tl, th⟩ := t
 have hkq : kidsQ 1 = 0 := rfl
 have HP := zH (show nodeP srcs 1 ⟨ts, tl, th⟩ n ks = (decide ((ks.len : Int) = 0) && inP n 0 200 && isTestP ⟨ts, tl, th⟩ srcs && decide (n = 0) && true) from rfl)
 go_enter Tryz.func194, Tryz.ntmps194
 go_wp2_with fail
 refine zX (G := fun W => Code.wp _ _ _ _ W) w _ _ fun w2 hb hz hx => ?_
 have c0 : w2.cell? ⟨w.heap.size, 0, none⟩ = some (.int .i64 1) := zC hx 0
 have c1 : w2.cell? ⟨w.heap.size, 1, none⟩ = some (.int .i64 ts) := zC hx 1
 have c2 : w2.cell? ⟨w.heap.size, 2, none⟩ = some (.int .i64 tl) := zC hx 2
 have c3 : w2.cell? ⟨w.heap.size, 3, none⟩ = some (.int .i64 th) := zC hx 3
 have c4 : w2.cell? ⟨w.heap.size, 4, none⟩ = some (.int .i64 n) := zC hx 4
 have c5 : w2.cell? ⟨w.heap.size, 5, none⟩ = some (.slice a ks.len c) := zC hx 5
 clear hx hz
 have HB := zH (hb.trans ((Below.refl w2.heap.size w2).drew.mono hb.size))
 have hb2 : Below w2.heap.size w2 w2.drew := (Below.refl _ _).drew
 replace c0 := zB hb2 c0
 replace c1 := zB hb2 c1
 replace c2 := zB hb2 c2
 replace c3 := zB hb2 c3
 replace c4 := zB hb2 c4
 replace c5 := zB hb2 c5
 replace HR := zH ((HR.out.below hb).below hb2)
 clear hb hb2
 by_cases hl : ks.len = 0
 ·have hlb : ((ks.len : Int) != 0) = false := by simp [hl]
  clear HR
  go_region_held3 (fun W => W.cell? ⟨w.heap.size, 0, none⟩ = some (.int .i64 1) ∧ W.cell? ⟨w.heap.size, 5, none⟩ = some (.slice a ks.len c)) (first | exact ⟨c0, c5⟩ | go_keep) ((first | (go_at_call 237; ((with_reducible refine (kids_any _ _).mono ?_)); rintro _ wK ⟨rfl, rfl⟩) | fail))
  all_goals
   have h0 : decide ((ks.len : Int) = 0) = true := by simp [hl]
   go_wp2_with (go_at_call 151; refine (isTest_any ⟨ts, tl, th⟩ srcs hs _).mono ?_; rintro e w9 ⟨rfl, hb9⟩; have d4 := zB hb9 c4)
   all_goals
    go_ret
    refine ⟨ret_bool ?_, HB.out.trans (hb9.mono HB.out.size)⟩
    rw [HP.out, h0]
    simp only [inP] at *
    grind
 ·have hlb : ((ks.len : Int) != 0) = true := by simp; omega
  clear HR
  go_region_held3 (fun W => W.cell? ⟨w.heap.size, 0, none⟩ = some (.int .i64 1) ∧ W.cell? ⟨w.heap.size, 5, none⟩ = some (.slice a ks.len c)) (first | exact ⟨c0, c5⟩ | go_keep) ((first | (go_at_call 237; ((with_reducible refine (kids_any _ _).mono ?_)); rintro _ wK ⟨rfl, rfl⟩) | fail))
  all_goals
   go_wp2
   go_ret
   exact ⟨ret_bool (by rw [HP.out, decide_eq_false (by omega)]; simp), HB.out⟩
set_option maxHeartbeats 4000000 in
theorem node_2 (srcs : Int) (t : Test) (n : Int) (ks : Pats) (v : Value) (hs : 1 ≤ srcs ∧ srcs ≤ 4) (w : World) (hr : RdK w ks v) :
 Calls Tryz.prog 194 #[.agg #[.int .i64 2, .int .i64 t.src, .int .i64 t.low, .int .i64 t.high, .int .i64 n, v], .int .i64 srcs] w fun e w' => e = .returned (.bool (nodeP srcs 2 t n ks)) ∧ Below w.heap.size w w' := by
 have HR := zH hr
 obtain ⟨a, c, rfl, hc1, hc2, _⟩ := hr
 obtain ⟨ts, tl, th⟩ := t
 have hkq : kidsQ 2 = 2 := rfl
 have HP := zH (show nodeP srcs 2 ⟨ts, tl, th⟩ n ks = (decide ((ks.len : Int) = 2) && inP n 0 200 && decide ((⟨ts, tl, th⟩ : Test) = zeroT) && true && true) from rfl)
 go_enter Tryz.func194, Tryz.ntmps194
 go_wp2_with fail
 refine zX (G := fun W => Code.wp _ _ _ _ W) w _ _ fun w2 hb hz hx => ?_
 have c0 : w2.cell? ⟨w.heap.size, 0, none⟩ = some (.int .i64 2) := zC hx 0
 have c1 : w2.cell? ⟨w.heap.size, 1, none⟩ = some (.int .i64 ts) := zC hx 1
 have c2 : w2.cell? ⟨w.heap.size, 2, none⟩ = some (.int .i64 tl) := zC hx 2
 have c3 : w2.cell? ⟨w.heap.size, 3, none⟩ = some (.int .i64 th) := zC hx 3
 have c4 : w2.cell? ⟨w.heap.size, 4, none⟩ = some (.int .i64 n) := zC hx 4
 have c5 : w2.cell? ⟨w.heap.size, 5, none⟩ = some (.slice a ks.len c) := zC hx 5
 clear hx hz
 have HB := zH (hb.trans ((Below.refl w2.heap.size w2).drew.mono hb.size))
 have hb2 : Below w2.heap.size w2 w2.drew := (Below.refl _ _).drew
 replace c0 := zB hb2 c0
 replace c1 := zB hb2 c1
 replace c2 := zB hb2 c2
 replace c3 := zB hb2 c3
 replace c4 := zB hb2 c4
 replace c5 := zB hb2 c5
 replace HR := zH ((HR.out.below hb).below hb2)
 clear hb hb2
 by_cases hl : ks.len = 2
 ·have hlb : ((ks.len : Int) != 2) = false := by simp [hl]
  clear HR
  go_region_held3 (fun W => W.cell? ⟨w.heap.size, 0, none⟩ = some (.int .i64 2) ∧ W.cell? ⟨w.heap.size, 5, none⟩ = some (.slice a ks.len c)) (first | exact ⟨c0, c5⟩ | go_keep) ((first | (go_at_call 237; ((with_reducible refine (kids_any _ _).mono ?_)); rintro _ wK ⟨rfl, rfl⟩) | fail))
  all_goals
   have h0 : decide ((ks.len : Int) = 2) = true := by simp [hl]
   go_wp2_with (go_at_call 88; refine (within_any _ _ _ _).mono ?_; rintro e w9 ⟨rfl, rfl⟩)
   all_goals
    go_ret
    refine ⟨ret_bool ?_, HB.out⟩
    rw [HP.out, h0]
    simp only [inP, zeroT, Test.mk.injEq] at *
    grind
 ·have hlb : ((ks.len : Int) != 2) = true := by simp; omega
  clear HR
  go_region_held3 (fun W => W.cell? ⟨w.heap.size, 0, none⟩ = some (.int .i64 2) ∧ W.cell? ⟨w.heap.size, 5, none⟩ = some (.slice a ks.len c)) (first | exact ⟨c0, c5⟩ | go_keep) ((first | (go_at_call 237; ((with_reducible refine (kids_any _ _).mono ?_)); rintro _ wK ⟨rfl, rfl⟩) | fail))
  all_goals
   go_wp2
   go_ret
   exact ⟨ret_bool (by rw [HP.out, decide_eq_false (by omega)]; simp), HB.out⟩
set_option maxHeartbeats 4000000 in
theorem node_3 (srcs : Int) (t : Test) (n : Int) (ks : Pats) (v : Value) (hs : 1 ≤ srcs ∧ srcs ≤ 4) (w : World) (hr : RdK w ks v) :
 Calls Tryz.prog 194 #[.agg #[.int .i64 3, .int .i64 t.src, .int .i64 t.low, .int .i64 t.high, .int .i64 n, v], .int .i64 srcs] w fun e w' => e = .returned (.bool (nodeP srcs 3 t n ks)) ∧ Below w.heap.size w w' := by
 have HR := zH hr
 obtain ⟨a, c, rfl, hc1, hc2, _⟩ := hr
 obtain ⟨ts, tl, th⟩ := t
 have hkq : kidsQ 3 = 2 := rfl
 have HP := zH (show nodeP srcs 3 ⟨ts, tl, th⟩ n ks = (decide ((ks.len : Int) = 2) && inP n 0 200 && decide ((⟨ts, tl, th⟩ : Test) = zeroT) && decide (n = 0) && true) from rfl)
 go_enter Tryz.func194, Tryz.ntmps194
 go_wp2_with fail
 refine zX (G := fun W => Code.wp _ _ _ _ W) w _ _ fun w2 hb hz hx => ?_
 have c0 : w2.cell? ⟨w.heap.size, 0, none⟩ = some (.int .i64 3) := zC hx 0
 have c1 : w2.cell? ⟨w.heap.size, 1, none⟩ = some (.int .i64 ts) := zC hx 1
 have c2 : w2.cell? ⟨w.heap.size, 2, none⟩ = some (.int .i64 tl) := zC hx 2
 have c3 : w2.cell? ⟨w.heap.size, 3, none⟩ = some (.int .i64 th) := zC hx 3
 have c4 : w2.cell? ⟨w.heap.size, 4, none⟩ = some (.int .i64 n) := zC hx 4
 have c5 : w2.cell? ⟨w.heap.size, 5, none⟩ = some (.slice a ks.len c) := zC hx 5
 clear hx hz
 have HB := zH (hb.trans ((Below.refl w2.heap.size w2).drew.mono hb.size))
 have hb2 : Below w2.heap.size w2 w2.drew := (Below.refl _ _).drew
 replace c0 := zB hb2 c0
 replace c1 := zB hb2 c1
 replace c2 := zB hb2 c2
 replace c3 := zB hb2 c3
 replace c4 := zB hb2 c4
 replace c5 := zB hb2 c5
 replace HR := zH ((HR.out.below hb).below hb2)
 clear hb hb2
 by_cases hl : ks.len = 2
 ·have hlb : ((ks.len : Int) != 2) = false := by simp [hl]
  clear HR
  go_region_held3 (fun W => W.cell? ⟨w.heap.size, 0, none⟩ = some (.int .i64 3) ∧ W.cell? ⟨w.heap.size, 5, none⟩ = some (.slice a ks.len c)) (first | exact ⟨c0, c5⟩ | go_keep) ((first | (go_at_call 237; ((with_reducible refine (kids_any _ _).mono ?_)); rintro _ wK ⟨rfl, rfl⟩) | fail))
  all_goals
   have h0 : decide ((ks.len : Int) = 2) = true := by simp [hl]
   go_wp2_with (go_at_call 88; refine (within_any _ _ _ _).mono ?_; rintro e w9 ⟨rfl, rfl⟩)
   all_goals
    go_ret
    refine ⟨ret_bool ?_, HB.out⟩
    rw [HP.out, h0]
    simp only [inP, zeroT, Test.mk.injEq] at *
    grind
 ·have hlb : ((ks.len : Int) != 2) = true := by simp; omega
  clear HR
  go_region_held3 (fun W => W.cell? ⟨w.heap.size, 0, none⟩ = some (.int .i64 3) ∧ W.cell? ⟨w.heap.size, 5, none⟩ = some (.slice a ks.len c)) (first | exact ⟨c0, c5⟩ | go_keep) ((first | (go_at_call 237; ((with_reducible refine (kids_any _ _).mono ?_)); rintro _ wK ⟨rfl, rfl⟩) | fail))
  all_goals
   go_wp2
   go_ret
   exact ⟨ret_bool (by rw [HP.out, decide_eq_false (by omega)]; simp), HB.out⟩
set_option maxHeartbeats 4000000 in
theorem node_4 (srcs : Int) (t : Test) (n : Int) (ks : Pats) (v : Value) (hs : 1 ≤ srcs ∧ srcs ≤ 4) (w : World) (hr : RdK w ks v) :
 Calls Tryz.prog 194 #[.agg #[.int .i64 4, .int .i64 t.src, .int .i64 t.low, .int .i64 t.high, .int .i64 n, v], .int .i64 srcs] w fun e w' => e = .returned (.bool (nodeP srcs 4 t n ks)) ∧ Below w.heap.size w w' := by
 have HR := zH hr
 obtain ⟨a, c, rfl, hc1, hc2, _⟩ := hr
 obtain ⟨ts, tl, th⟩ := t
 have hkq : kidsQ 4 = 1 := rfl
 have HP := zH (show nodeP srcs 4 ⟨ts, tl, th⟩ n ks = (decide ((ks.len : Int) = 1) && inP n 0 200 && decide ((⟨ts, tl, th⟩ : Test) = zeroT) && true && true) from rfl)
 go_enter Tryz.func194, Tryz.ntmps194
 go_wp2_with fail
 refine zX (G := fun W => Code.wp _ _ _ _ W) w _ _ fun w2 hb hz hx => ?_
 have c0 : w2.cell? ⟨w.heap.size, 0, none⟩ = some (.int .i64 4) := zC hx 0
 have c1 : w2.cell? ⟨w.heap.size, 1, none⟩ = some (.int .i64 ts) := zC hx 1
 have c2 : w2.cell? ⟨w.heap.size, 2, none⟩ = some (.int .i64 tl) := zC hx 2
 have c3 : w2.cell? ⟨w.heap.size, 3, none⟩ = some (.int .i64 th) := zC hx 3
 have c4 : w2.cell? ⟨w.heap.size, 4, none⟩ = some (.int .i64 n) := zC hx 4
 have c5 : w2.cell? ⟨w.heap.size, 5, none⟩ = some (.slice a ks.len c) := zC hx 5
 clear hx hz
 have HB := zH (hb.trans ((Below.refl w2.heap.size w2).drew.mono hb.size))
 have hb2 : Below w2.heap.size w2 w2.drew := (Below.refl _ _).drew
 replace c0 := zB hb2 c0
 replace c1 := zB hb2 c1
 replace c2 := zB hb2 c2
 replace c3 := zB hb2 c3
 replace c4 := zB hb2 c4
 replace c5 := zB hb2 c5
 replace HR := zH ((HR.out.below hb).below hb2)
 clear hb hb2
 by_cases hl : ks.len = 1
 ·have hlb : ((ks.len : Int) != 1) = false := by simp [hl]
  clear HR
  go_region_held3 (fun W => W.cell? ⟨w.heap.size, 0, none⟩ = some (.int .i64 4) ∧ W.cell? ⟨w.heap.size, 5, none⟩ = some (.slice a ks.len c)) (first | exact ⟨c0, c5⟩ | go_keep) ((first | (go_at_call 237; ((with_reducible refine (kids_any _ _).mono ?_)); rintro _ wK ⟨rfl, rfl⟩) | fail))
  all_goals
   have h0 : decide ((ks.len : Int) = 1) = true := by simp [hl]
   go_wp2_with (go_at_call 88; refine (within_any _ _ _ _).mono ?_; rintro e w9 ⟨rfl, rfl⟩)
   all_goals
    go_ret
    refine ⟨ret_bool ?_, HB.out⟩
    rw [HP.out, h0]
    simp only [inP, zeroT, Test.mk.injEq] at *
    grind
 ·have hlb : ((ks.len : Int) != 1) = true := by simp; omega
  clear HR
  go_region_held3 (fun W => W.cell? ⟨w.heap.size, 0, none⟩ = some (.int .i64 4) ∧ W.cell? ⟨w.heap.size, 5, none⟩ = some (.slice a ks.len c)) (first | exact ⟨c0, c5⟩ | go_keep) ((first | (go_at_call 237; ((with_reducible refine (kids_any _ _).mono ?_)); rintro _ wK ⟨rfl, rfl⟩) | fail))
  all_goals
   go_wp2
   go_ret
   exact ⟨ret_bool (by rw [HP.out, decide_eq_false (by omega)]; simp), HB.out⟩
set_option maxHeartbeats 4000000 in
theorem node_5 (srcs : Int) (t : Test) (n : Int) (ks : Pats) (v : Value) (hs : 1 ≤ srcs ∧ srcs ≤ 4) (w : World) (hr : RdK w ks v) :
 Calls Tryz.prog 194 #[.agg #[.int .i64 5, .int .i64 t.src, .int .i64 t.low, .int .i64 t.high, .int .i64 n, v], .int .i64 srcs] w fun e w' => e = .returned (.bool (nodeP srcs 5 t n ks)) ∧ Below w.heap.size w w' := by
 have HR := zH hr
 obtain ⟨a, c, rfl, hc1, hc2, _⟩ := hr
 obtain ⟨ts, tl, th⟩ := t
 have hkq : kidsQ 5 = 3 := rfl
 have HP := zH (show nodeP srcs 5 ⟨ts, tl, th⟩ n ks = (decide ((ks.len : Int) = 3) && inP n 0 200 && decide ((⟨ts, tl, th⟩ : Test) = zeroT) && true && (ks.op2 == some 1)) from rfl)
 go_enter Tryz.func194, Tryz.ntmps194
 go_wp2_with fail
 refine zX (G := fun W => Code.wp _ _ _ _ W) w _ _ fun w2 hb hz hx => ?_
 have c0 : w2.cell? ⟨w.heap.size, 0, none⟩ = some (.int .i64 5) := zC hx 0
 have c1 : w2.cell? ⟨w.heap.size, 1, none⟩ = some (.int .i64 ts) := zC hx 1
 have c2 : w2.cell? ⟨w.heap.size, 2, none⟩ = some (.int .i64 tl) := zC hx 2
 have c3 : w2.cell? ⟨w.heap.size, 3, none⟩ = some (.int .i64 th) := zC hx 3
 have c4 : w2.cell? ⟨w.heap.size, 4, none⟩ = some (.int .i64 n) := zC hx 4
 have c5 : w2.cell? ⟨w.heap.size, 5, none⟩ = some (.slice a ks.len c) := zC hx 5
 clear hx hz
 have HB := zH (hb.trans ((Below.refl w2.heap.size w2).drew.mono hb.size))
 have hb2 : Below w2.heap.size w2 w2.drew := (Below.refl _ _).drew
 replace c0 := zB hb2 c0
 replace c1 := zB hb2 c1
 replace c2 := zB hb2 c2
 replace c3 := zB hb2 c3
 replace c4 := zB hb2 c4
 replace c5 := zB hb2 c5
 replace HR := zH ((HR.out.below hb).below hb2)
 clear hb hb2
 by_cases hl : ks.len = 3
 ·have hlb : ((ks.len : Int) != 3) = false := by simp [hl]
  obtain ⟨o2, hk2, q2⟩ : ∃ o2, ks.op2 = some o2 ∧ ∃ b off, a = some ⟨b, off, none⟩ ∧ w2.drew.cell? ⟨b, off + 6, none⟩ = some (.int .i64 o2) := by
   match ks, hl, HR.out with
   | .cons o1 t1 n1 k1 (.cons o2 t2 n2 k2 r), _, ⟨a', c', he, _, _, h⟩ =>
    obtain ⟨b, off, rfl, _, hp⟩ := h (by simp [Pats.len])
    injection he with h1 _ _
    exact ⟨o2, rfl, b, off, h1, hp.2.2.1.1⟩
  obtain ⟨b, off, rfl, q2⟩ := q2
  have HK2 := zH hk2
  clear hk2
  have hl3 : (1 : Int) < (ks.len : Int) := by omega
  clear HR
  go_region_held3 (fun W => W.cell? ⟨w.heap.size, 0, none⟩ = some (.int .i64 5) ∧ W.cell? ⟨w.heap.size, 5, none⟩ = some (.slice (some ⟨b, off, none⟩) ks.len c)) (first | exact ⟨c0, c5⟩ | go_keep) ((first | (go_at_call 237; ((with_reducible refine (kids_any _ _).mono ?_)); rintro _ wK ⟨rfl, rfl⟩) | fail))
  all_goals
   have h0 : decide ((ks.len : Int) = 3) = true := by simp [hl]
   go_wp2_with (go_at_call 88; refine (within_any _ _ _ _).mono ?_; rintro e w9 ⟨rfl, rfl⟩)
   all_goals
    go_ret
    refine ⟨ret_bool ?_, HB.out⟩
    rw [HP.out, h0, HK2.out]
    simp only [inP, zeroT, Test.mk.injEq] at *
    grind
 ·have hlb : ((ks.len : Int) != 3) = true := by simp; omega
  clear HR
  go_region_held3 (fun W => W.cell? ⟨w.heap.size, 0, none⟩ = some (.int .i64 5) ∧ W.cell? ⟨w.heap.size, 5, none⟩ = some (.slice a ks.len c)) (first | exact ⟨c0, c5⟩ | go_keep) ((first | (go_at_call 237; ((with_reducible refine (kids_any _ _).mono ?_)); rintro _ wK ⟨rfl, rfl⟩) | fail))
  all_goals
   go_wp2
   go_ret
   exact ⟨ret_bool (by rw [HP.out, decide_eq_false (by omega)]; simp), HB.out⟩
set_option maxHeartbeats 4000000 in
theorem node_low (srcs op : Int) (hop : op < 1) (t : Test) (n : Int) (ks : Pats) (v : Value) (w : World) (hr : RdK w ks v) :
 Calls Tryz.prog 194 #[.agg #[.int .i64 op, .int .i64 t.src, .int .i64 t.low, .int .i64 t.high, .int .i64 n, v], .int .i64 srcs] w fun e w' => e = .returned (.bool (nodeP srcs op t n ks)) ∧ Below w.heap.size w w' := by
 have HR := zH hr
 obtain ⟨a, c, rfl, hc1, hc2, _⟩ := hr
 obtain ⟨ts, tl, th⟩ := t
 have hP : nodeP srcs op ⟨ts, tl, th⟩ n ks = false := by
  have : kidsP op = -1 := by unfold kidsP; rw [if_neg (by omega), if_neg (by omega), if_neg (by omega), if_neg (by omega)]
  rw [nodeP, this, decide_eq_false (by omega)]
  rfl
 have HP := zH hP
 clear hP
 go_enter Tryz.func194, Tryz.ntmps194
 go_wp2_with fail
 refine zX (G := fun W => Code.wp _ _ _ _ W) w _ _ fun w2 hb hz hx => ?_
 have c0 : w2.cell? ⟨w.heap.size, 0, none⟩ = some (.int .i64 op) := zC hx 0
 have c1 : w2.cell? ⟨w.heap.size, 1, none⟩ = some (.int .i64 ts) := zC hx 1
 have c2 : w2.cell? ⟨w.heap.size, 2, none⟩ = some (.int .i64 tl) := zC hx 2
 have c3 : w2.cell? ⟨w.heap.size, 3, none⟩ = some (.int .i64 th) := zC hx 3
 have c4 : w2.cell? ⟨w.heap.size, 4, none⟩ = some (.int .i64 n) := zC hx 4
 have c5 : w2.cell? ⟨w.heap.size, 5, none⟩ = some (.slice a ks.len c) := zC hx 5
 clear hx hz
 have HB := zH (hb.trans ((Below.refl w2.heap.size w2).drew.mono hb.size))
 have hb2 : Below w2.heap.size w2 w2.drew := (Below.refl _ _).drew
 replace c0 := zB hb2 c0
 replace c1 := zB hb2 c1
 replace c2 := zB hb2 c2
 replace c3 := zB hb2 c3
 replace c4 := zB hb2 c4
 replace c5 := zB hb2 c5
 replace HR := zH ((HR.out.below hb).below hb2)
 clear hb hb2
 clear HR
 have hD := zH (Below.refl w2.drew.heap.size w2.drew)
 try refine wp_region_noPanic ?_
 refine wp_region_held_drew (S := fun W => W.cell? ⟨w.heap.size, 0, none⟩ = some (.int .i64 op)) (by kernel_rfl) c0 (fun hHeld => ?_)
 refine takeI 0 (h := ?_)
 refine takeI 1 (h := ?_)
 refine takeI 2 (h := ?_)
 refine takeI 3 (h := ?_)
 refine takeS 4 (h := ?_)
 refine takeS 5 (h := ?_)
 refine takeS 6 (h := ?_)
 refine takeI 7 (h := ?_)
 refine takeI 8 (h := ?_)
 refine takeS 9 (h := ?_)
 refine takeS 10 (h := ?_)
 refine takeS 11 (h := ?_)
 refine takeS 12 (h := ?_)
 refine takeS 13 (h := ?_)
 refine takeS 14 (h := ?_)
 refine takeS 15 (h := ?_)
 refine takeI 16 (h := ?_)
 refine wpAnyH_done (by kernel_rfl) ?_ _
 try refine NoPanic.normal ?_
 go_wp2
 go_ret
 exact ⟨ret_bool (by rw [HP.out]), HB.out⟩
set_option maxHeartbeats 4000000 in
theorem node_high (srcs op : Int) (hop : 5 < op) (t : Test) (n : Int) (ks : Pats) (v : Value) (w : World) (hr : RdK w ks v) :
 Calls Tryz.prog 194 #[.agg #[.int .i64 op, .int .i64 t.src, .int .i64 t.low, .int .i64 t.high, .int .i64 n, v], .int .i64 srcs] w fun e w' => e = .returned (.bool (nodeP srcs op t n ks)) ∧ Below w.heap.size w w' := by
 have HR := zH hr
 obtain ⟨a, c, rfl, hc1, hc2, _⟩ := hr
 obtain ⟨ts, tl, th⟩ := t
 have hP : nodeP srcs op ⟨ts, tl, th⟩ n ks = false := by
  have : kidsP op = -1 := by unfold kidsP; rw [if_neg (by omega), if_neg (by omega), if_neg (by omega), if_neg (by omega)]
  rw [nodeP, this, decide_eq_false (by omega)]
  rfl
 have HP := zH hP
 clear hP
 go_enter Tryz.func194, Tryz.ntmps194
 go_wp2_with fail
 refine zX (G := fun W => Code.wp _ _ _ _ W) w _ _ fun w2 hb hz hx => ?_
 have c0 : w2.cell? ⟨w.heap.size, 0, none⟩ = some (.int .i64 op) := zC hx 0
 have c1 : w2.cell? ⟨w.heap.size, 1, none⟩ = some (.int .i64 ts) := zC hx 1
 have c2 : w2.cell? ⟨w.heap.size, 2, none⟩ = some (.int .i64 tl) := zC hx 2
 have c3 : w2.cell? ⟨w.heap.size, 3, none⟩ = some (.int .i64 th) := zC hx 3
 have c4 : w2.cell? ⟨w.heap.size, 4, none⟩ = some (.int .i64 n) := zC hx 4
 have c5 : w2.cell? ⟨w.heap.size, 5, none⟩ = some (.slice a ks.len c) := zC hx 5
 clear hx hz
 have HB := zH (hb.trans ((Below.refl w2.heap.size w2).drew.mono hb.size))
 have hb2 : Below w2.heap.size w2 w2.drew := (Below.refl _ _).drew
 replace c0 := zB hb2 c0
 replace c1 := zB hb2 c1
 replace c2 := zB hb2 c2
 replace c3 := zB hb2 c3
 replace c4 := zB hb2 c4
 replace c5 := zB hb2 c5
 replace HR := zH ((HR.out.below hb).below hb2)
 clear hb hb2
 clear HR
 have hop2 : ¬ op < 1 := by omega
 have hD := zH (Below.refl w2.drew.heap.size w2.drew)
 try refine wp_region_noPanic ?_
 refine wp_region_held_drew (S := fun W => W.cell? ⟨w.heap.size, 0, none⟩ = some (.int .i64 op)) (by kernel_rfl) c0 (fun hHeld => ?_)
 refine takeI 0 (h := ?_)
 refine takeI 1 (h := ?_)
 refine takeI 2 (h := ?_)
 refine takeI 3 (h := ?_)
 refine takeI 4 (h := ?_)
 refine takeI 5 (h := ?_)
 refine takeI 6 (h := ?_)
 refine takeI 7 (h := ?_)
 refine takeI 8 (h := ?_)
 refine takeS 9 (h := ?_)
 refine takeS 10 (h := ?_)
 refine takeS 11 (h := ?_)
 refine takeS 12 (h := ?_)
 refine takeS 13 (h := ?_)
 refine takeS 14 (h := ?_)
 refine takeS 15 (h := ?_)
 refine takeI 16 (h := ?_)
 refine wpAnyH_done (by kernel_rfl) ?_ _
 try refine NoPanic.normal ?_
 go_wp2
 go_ret
 exact ⟨ret_bool (by rw [HP.out]), HB.out⟩
theorem node_any (srcs op : Int) (t : Test) (n : Int) (ks : Pats) (v : Value) (hs : 1 ≤ srcs ∧ srcs ≤ 4) (w : World) (hr : RdK w ks v) :
 Calls Tryz.prog 194 #[.agg #[.int .i64 op, .int .i64 t.src, .int .i64 t.low, .int .i64 t.high, .int .i64 n, v], .int .i64 srcs] w fun e w' => e = .returned (.bool (nodeP srcs op t n ks)) ∧ Below w.heap.size w w' := by
 by_cases h0 : op < 1
 ·exact node_low srcs op h0 t n ks v w hr
 by_cases h6 : 5 < op
 ·exact node_high srcs op h6 t n ks v w hr
 have h : op = 1 ∨ op = 2 ∨ op = 3 ∨ op = 4 ∨ op = 5 := by omega
 rcases h with rfl | rfl | rfl | rfl | rfl
 ·exact node_1 srcs t n ks v hs w hr
 ·exact node_2 srcs t n ks v hs w hr
 ·exact node_3 srcs t n ks v hs w hr
 ·exact node_4 srcs t n ks v hs w hr
 ·exact node_5 srcs t n ks v hs w hr
end
end Go.Proofs.YtgiploddoffmjaaGreat
