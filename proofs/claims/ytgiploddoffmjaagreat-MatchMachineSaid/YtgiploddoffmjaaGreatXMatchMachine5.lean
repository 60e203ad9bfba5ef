/- My texts, joined: W89. -/
import Derived.Below
import Derived.BigQuiet
import Derived.ChangeKeysEq
import Derived.Deep.AppendLies
import Derived.Deep.DeepCutAuto
import Derived.Deep.QuietTactic
import Derived.Deep.RegionHeld
import Derived.Deep.RegionHeld3
import Derived.Deep.RegionLaw
import Derived.Defers
import Derived.KernelRfl
import Derived.Laws.AppendOwn
import Derived.Laws.AppendOwnNone
import Derived.Laws.CopyRow
import Derived.Laws.Pointers
import Derived.Laws.StructEq
import Derived.Lib.Hide
import Derived.LoopIn
import Derived.LoopNIn
import Derived.LoopTactic
import Derived.MapKept
import Derived.Maps.AppendAt
import Derived.Maps.OwnOps
import Derived.Maps.RangeRun
import Derived.Maps.RangeWalk
import Derived.Outline
import Derived.OwnWalk
import Derived.OwnWalkIn
import Derived.RangeFuncBound
import Derived.RangeFuncCalls
import Derived.RangeFuncLeaves
import Derived.RangeFuncNested
import Derived.Recover
import Derived.Shelf.Abstract
import Derived.Shelf.RegionOpen
import Derived.TacticsInMore
import Derived.Test.YtgiploddoffmjaaGreatProg
import Derived.WalkKit
import Derived.WalkLawsBesides
import Derived.WalkSpells
import Derived.Test.YtgiploddoffmjaaGreatM0
import Derived.Test.YtgiploddoffmjaaGreatM1
import Derived.Test.YtgiploddoffmjaaGreatM2
import Derived.Test.YtgiploddoffmjaaGreatM3
import Derived.Test.YtgiploddoffmjaaGreatM4
import Derived.Test.YtgiploddoffmjaaGreatM5
import Derived.Test.YtgiploddoffmjaaGreatM6
import Derived.Test.YtgiploddoffmjaaGreatM7
import Derived.Test.YtgiploddoffmjaaGreatXMatchMachine1
import Derived.Test.YtgiploddoffmjaaGreatXMatchMachine2
import Derived.Test.YtgiploddoffmjaaGreatXMatchMachine3
import Derived.Test.YtgiploddoffmjaaGreatXMatchMachine4
set_option linter.unusedVariables false
set_option linter.unusedSimpArgs false
set_option linter.unusedSectionVars false
set_option maxRecDepth 10000
namespace Go.Proofs.YtgiploddoffmjaaGreat
section
open Go.RowKit Go.Shelf
theorem refIn5_any (n lo hi : Int) (w : World) : Calls Tryz.prog 167 #[.int .i64 n, .int .i64 lo, .int .i64 hi] w fun e w' => e = .returned (.bool (inP n lo hi)) ∧ w = w' := by
 unfold inP
 by_cases h1 : lo ≤ n <;> by_cases h2 : n ≤ hi <;>
 (go_enter Tryz.func167, Tryz.ntmps167
  go_wp2
  go_ret
  exact ⟨by simp [h1, h2], rfl⟩)
def recOk (a k v : Int) : Bool := inP a 0 200 && inP k (-1000000000) 1000000000 && inP v (-1000000000) 1000000000
theorem refRec_any (a k v : Int) (w : World) : Calls Tryz.prog 168 #[.agg #[.int .i64 a, .int .i64 k, .int .i64 v]] w fun e w' => e = .returned (.bool (recOk a k v)) ∧ Below w.heap.size w w' := by
 go_enter Tryz.func168, Tryz.ntmps168
 go_wp2_with (go_at_call 167; refine (refIn5_any _ _ _ _).mono ?_; rintro e w' ⟨rfl, rfl⟩)
 all_goals
  go_ret
  refine ⟨ret_bool ?_, (Below.refl _ _).alloc (Nat.le_refl _) _⟩
  simp only [recOk, inP] at *
  grind
theorem refBefore_any (a b : Ev) (w : World) : Calls Tryz.prog 169 #[.agg #[.int .i64 a.src, .int .i64 a.id, .int .i64 a.at_, .int .i64 a.key, .int .i64 a.val], .agg #[.int .i64 b.src, .int .i64 b.id, .int .i64 b.at_, .int .i64 b.key, .int .i64 b.val]] w fun e w' => e = .returned (.bool (beforeP a b)) ∧ Below w.heap.size w w' := by
 obtain ⟨s0, ai, at_, ak, av⟩ := a
 obtain ⟨bs, bi, bt, bk, bv⟩ := b
 unfold beforeP
 dsimp only
 go_enter Tryz.func169, Tryz.ntmps169
 go_wp2
 all_goals
  go_ret
  refine ⟨ret_bool ?_, ((Below.refl _ _).alloc (Nat.le_refl _) _).alloc (by simp) _⟩
  (simp at * <;> grind)
def fresh (l : List Ev) (n : Nat) (e : Ev) : Bool := (l.take n).all fun d => !(decide (d.src = e.src) && decide (d.id = e.id))
theorem fresh_succ {l : List Ev} {n : Nat} {e d : Ev} (h : l[n]? = some d) : fresh l (n + 1) e = (fresh l n e && !(decide (d.src = e.src) && decide (d.id = e.id))) := by
 unfold fresh
 rw [List.take_add_one, h, List.all_append]
 simp
theorem fresh_not {l : List Ev} {n j : Nat} {e d : Ev} (hj : j < n) (hd : l[j]? = some d) (h : (decide (d.src = e.src) && decide (d.id = e.id)) = true) : fresh l n e = false := by
 unfold fresh
 exact List.all_eq_false.2 ⟨d, List.mem_of_getElem? (i := j) (by rw [List.getElem?_take, if_pos hj]; exact hd), by simp [h]⟩
theorem evGood_eq {srcs : Int} {l : List Ev} {n : Nat} {e : Ev} (h : l[n]? = some e) : evGood srcs l n = (inP e.src 0 (srcs - 1) && inP e.id 0 999 && recOk e.at_ e.key e.val && (decide (n = 0) || beforeP ((l[n - 1]?).getD default) e) && fresh l n e) := by
 unfold evGood fresh evOk recOk
 rw [h]
 first | (simp only [Bool.and_assoc]; done) | (simp only [Bool.and_assoc]; rfl)
set_option maxRecDepth 100000 in
set_option maxHeartbeats 32000000 in
theorem refEvents_any (l : List Ev) (v : Value) (srcs : Int) (w : World) (hr : Rd Ev.cells 5 w v l) :
 Calls Tryz.prog 97 #[v, .int .i64 srcs] w fun e w' => e = .returned (.bool (eventsP srcs l)) ∧ Below w.heap.size w w' := by
 obtain ⟨al, cl, rfl⟩ : ∃ a c, v = .slice a l.length c := by obtain ⟨_, a, c, rfl, _⟩ := hr; exact ⟨a, c, rfl⟩
 have hl63 := hr.1
 have HR := zH hr
 clear hr
 have hin := fun W => refIn5_any srcs 1 4 W
 cases hs : inP srcs 1 4 with
 | false =>
  rw [hs] at hin
  have HIN := zH hin
  have HE := zH (show eventsP srcs l = false by unfold eventsP; rw [hs]; rfl)
  clear hin hs
  go_enter Tryz.func97, Tryz.ntmps97
  go_wp2_with (go_at_call 167; refine (HIN.out _).mono ?_; rintro e w' ⟨rfl, rfl⟩)
  go_ret
  exact ⟨ret_bool HE.out.symm, Below.refl _ _⟩
 | true =>
 have hs4 : 1 ≤ srcs ∧ srcs ≤ 4 := by unfold inP at hs; simp only [Bool.and_eq_true, decide_eq_true_eq] at hs; exact hs
 rw [hs] at hin
 have HIN := zH hin
 clear hin hs
 by_cases h60 : l.length ≤ 60
 rotate_left
 ·have HE := zH (show eventsP srcs l = false by unfold eventsP; rw [decide_eq_false h60]; simp)
  have n1 : (60 : Int) < (l.length : Int) := by omega
  clear h60
  go_enter Tryz.func97, Tryz.ntmps97
  go_wp2_with (go_at_call 167; refine (HIN.out _).mono ?_; rintro e w' ⟨rfl, rfl⟩)
  go_ret
  exact ⟨ret_bool HE.out.symm, Below.refl _ _⟩
 have n1 : ¬ (60 : Int) < (l.length : Int) := by omega
 have hsw : IntKind.i64.wrap (srcs - 1) = srcs - 1 := Go.IntWalk.i64_in _ (by omega)
 have E167 := zH (enters_of Tryz.func167 (by kernel_rfl) rfl)
 have E168 := zH (enters_of Tryz.func168 (by kernel_rfl) rfl)
 have E169 := zH (enters_of Tryz.func169 (by kernel_rfl) rfl)
 go_enter Tryz.func97, Tryz.ntmps97
 go_wp2_with (go_at_call 167; refine (HIN.out _).mono ?_; rintro e w' ⟨rfl, rfl⟩)
 clear n1
 go_loopw [5] (fun i W => ∃ n : Nat, i = .int .i64 n ∧ n ≤ l.length ∧ (∀ k, k < n → evGood srcs l k = true) ∧ Below w.heap.size w W) (fun i _ => l.length - (intOf i).toNat)
 case atStart => exact ⟨0, rfl, by omega, fun k h => by omega, Below.refl _ _⟩
 case round =>
  obtain ⟨n, rfl, hn, hgood, hB⟩ := hrel
  obtain ⟨wA, hA⟩ : ∃ W, W = wr := ⟨_, rfl⟩
  subst hA
  by_cases hlt : n < l.length
  rotate_left
  ·obtain rfl : n = l.length := by omega
   have HG := zH (zA hgood hB)
   clear hgood hB
   go_wp2
   go_ret
   exact ⟨ret_bool (by rw [events_all hs4 HG.out.1]; exact (decide_eq_true h60).symm), HG.out.2⟩
  have hx := List.getElem?_eq_getElem hlt
  generalize l[n] = x at hx
  obtain ⟨e_0, e_1, e_2, e_3, e_4⟩ := x
  obtain ⟨b, off, rfl, hbl, hc⟩ := rd_at (HR.out.below hB) hx
  have q0 : wA.cell? ⟨b, off + n * 5, none⟩ = some (.int .i64 e_0) := hc 0 _ rfl
  have q1 := hc 1 _ rfl
  have q2 := hc 2 _ rfl
  have q3 := hc 3 _ rfl
  have q4 := hc 4 _ rfl
  have n1 : (n : Int) < (l.length : Int) := by omega
  obtain ⟨b1, hb1⟩ : ∃ b, b = inP e_0 0 (srcs - 1) := ⟨_, rfl⟩
  obtain ⟨b2, hb2⟩ : ∃ b, b = inP e_1 0 999 := ⟨_, rfl⟩
  obtain ⟨b3, hb3⟩ : ∃ b, b = recOk e_2 e_3 e_4 := ⟨_, rfl⟩
  have HC1 := zH (fun W => refIn5_any e_0 0 (srcs - 1) W)
  have HC2 := zH (fun W => refIn5_any e_1 0 999 W)
  have HC3 := zH (fun W => refRec_any e_2 e_3 e_4 W)
  rw [← hb1] at HC1
  rw [← hb2] at HC2
  rw [← hb3] at HC3
  have HEV := zH (show evGood srcs l n = (b1 && b2 && b3 && (decide (n = 0) || beforeP ((l[n - 1]?).getD default) ⟨e_0, e_1, e_2, e_3, e_4⟩) && fresh l n ⟨e_0, e_1, e_2, e_3, e_4⟩) by rw [evGood_eq hx, hb1, hb2, hb3])
  have HS := zH (show ∀ W, Below wA.heap.size wA W → W.cell? ⟨b, off + n * 5, none⟩ = some (.int .i64 e_0) ∧ W.cell? ⟨b, off + n * 5 + 1, none⟩ = some (.int .i64 e_1) ∧ W.cell? ⟨b, off + n * 5 + 2, none⟩ = some (.int .i64 e_2) ∧ W.cell? ⟨b, off + n * 5 + 3, none⟩ = some (.int .i64 e_3) ∧ W.cell? ⟨b, off + n * 5 + 4, none⟩ = some (.int .i64 e_4) from fun W hW => ⟨zB hW q0, zB hW q1, zB hW q2, zB hW q3, zB hW q4⟩)
  have HG := zH (zA hgood (zA hB hx))
  have HWD := zH ((Below.refl wA.heap.size wA).drew)
  clear hgood hB hc hx hb1 hb2 hb3 q0 q1 q2 q3 q4
  have key : (b1 = false ∨ (b1 = true ∧ b2 = false) ∨ (b1 = true ∧ b2 = true ∧ b3 = false)) ∨ (b1 = true ∧ b2 = true ∧ b3 = true) := by
   cases b1 <;> cases b2 <;> cases b3 <;> simp
  rcases key with key | ⟨rfl, rfl, rfl⟩
  ·have HF := zH (show evGood srcs l n = false by
    rw [HEV.out]
    rcases key with rfl | ⟨rfl, rfl⟩ | ⟨rfl, rfl, rfl⟩ <;> simp)
   rcases key with rfl | ⟨rfl, rfl⟩ | ⟨rfl, rfl, rfl⟩
   all_goals
    go_wp2_with fail
    refine zR 44 (S := fun W => W.cell? ⟨b, off + n * 5, none⟩ = some (.int .i64 e_0) ∧ W.cell? ⟨b, off + n * 5 + 1, none⟩ = some (.int .i64 e_1) ∧ W.cell? ⟨b, off + n * 5 + 2, none⟩ = some (.int .i64 e_2) ∧ W.cell? ⟨b, off + n * 5 + 3, none⟩ = some (.int .i64 e_3) ∧ W.cell? ⟨b, off + n * 5 + 4, none⟩ = some (.int .i64 e_4)) (by kernel_rfl) (by kernel_rfl) rfl (HS.out _ HWD.out) (fun hHeld => ?_)
    try simp only [List.reduceReplicate]
    repeat (first
     | refine takeA [] (h := ?_)
     | (refine callA [] (args := ?_) (R := ?_) (he := ?_) (hc := ?_) (hargs := ?_) (h := ?_)
        rotate_left 2
        first
        | (exact E167.out; exact HC1.out _; rfl; rintro e wz ⟨rfl, rfl⟩; refine .inl ⟨_, rfl, HS.out _ HWD.out, fun hHeld => ?_⟩)
        | (exact E167.out; exact HC2.out _; rfl; rintro e wz ⟨rfl, rfl⟩; refine .inl ⟨_, rfl, HS.out _ HWD.out, fun hHeld => ?_⟩)
        | (exact E168.out; exact HC3.out _; rfl; rintro e wz ⟨rfl, hbz⟩; refine .inl ⟨_, rfl, HS.out _ (HWD.out.trans (hbz.mono HWD.out.size)), fun hHeld => ?_⟩; replace HWD := zH (HWD.out.trans (hbz.mono HWD.out.size)); clear hbz)
        refine normA (h := ?_)))
    refine wpAnyH_done (by kernel_rfl) ?_ _
    clear hHeld
    go_wp2
    go_ret
    exact ⟨ret_bool (events_bad hlt HF.out).symm, HG.out.2.1.trans (HWD.out.mono HG.out.2.1.size)⟩
  by_cases hn0 : n = 0
  ·subst hn0
   have HS1 := HS
   replace HS := zH (show ∀ W, Below wA.heap.size wA W → W.cell? ⟨b, off, none⟩ = some (.int .i64 e_0) ∧ W.cell? ⟨b, off + 1, none⟩ = some (.int .i64 e_1) ∧ W.cell? ⟨b, off + 2, none⟩ = some (.int .i64 e_2) ∧ W.cell? ⟨b, off + 3, none⟩ = some (.int .i64 e_3) ∧ W.cell? ⟨b, off + 4, none⟩ = some (.int .i64 e_4) from fun W hW => by
    have := HS1.out W hW
    simpa using this)
   have HE1 := zH (show evGood srcs l 0 = true by rw [HEV.out]; simp [fresh])
   go_wp2_with fail
   refine zR 44 (S := fun W => W.cell? ⟨b, off, none⟩ = some (.int .i64 e_0) ∧ W.cell? ⟨b, off + 1, none⟩ = some (.int .i64 e_1) ∧ W.cell? ⟨b, off + 2, none⟩ = some (.int .i64 e_2) ∧ W.cell? ⟨b, off + 3, none⟩ = some (.int .i64 e_3) ∧ W.cell? ⟨b, off + 4, none⟩ = some (.int .i64 e_4)) (by kernel_rfl) (by kernel_rfl) rfl (HS.out _ HWD.out) (fun hHeld => ?_)
   try simp only [List.reduceReplicate]
   repeat (first
    | refine takeA [] (h := ?_)
    | (refine callA [] (args := ?_) (R := ?_) (he := ?_) (hc := ?_) (hargs := ?_) (h := ?_)
       rotate_left 2
       first
       | (exact E167.out; exact HC1.out _; rfl; rintro e wz ⟨rfl, rfl⟩; refine .inl ⟨_, rfl, HS.out _ HWD.out, fun hHeld => ?_⟩)
       | (exact E167.out; exact HC2.out _; rfl; rintro e wz ⟨rfl, rfl⟩; refine .inl ⟨_, rfl, HS.out _ HWD.out, fun hHeld => ?_⟩)
       | (exact E168.out; exact HC3.out _; rfl; rintro e wz ⟨rfl, hbz⟩; refine .inl ⟨_, rfl, HS.out _ (HWD.out.trans (hbz.mono HWD.out.size)), fun hHeld => ?_⟩; replace HWD := zH (HWD.out.trans (hbz.mono HWD.out.size)); clear hbz)
       refine normA (h := ?_)))
   refine wpAnyH_done (by kernel_rfl) ?_ _
   clear hHeld
   go_wp2
   go_loopw [6] (fun j W => j = .int .i64 0 ∧ Below w.heap.size w W) (fun _ _ => 0)
   case atStart => exact ⟨rfl, HG.out.2.1.trans (HWD.out.mono HG.out.2.1.size)⟩
   case round =>
    obtain ⟨rfl, hB1⟩ := hrel
    have HB1 := zH hB1
    clear hB1
    go_wp2
    go_roundw
    case rel => exact ⟨1, by go_num, by omega, fun k hk => by obtain rfl : k = 0 := by omega
                                                              exact HE1.out, HB1.out⟩
    case measure => simp [intOf]; omega
  obtain ⟨p, hp⟩ : ∃ p, p = n - 1 := ⟨_, rfl⟩
  have hpl : p < l.length := by omega
  have hxp := List.getElem?_eq_getElem hpl
  generalize l[p] = q at hxp
  obtain ⟨d_0, d_1, d_2, d_3, d_4⟩ := q
  obtain ⟨b', off', he', _, hcp⟩ := rd_at (HR.out.below HG.out.2.1) hxp
  injection he' with he'
  injection he' with e1 e2
  subst e1; subst e2
  have z0 : wA.cell? ⟨b, off + p * 5, none⟩ = some (.int .i64 d_0) := hcp 0 _ rfl
  have z1 := hcp 1 _ rfl
  have z2 := hcp 2 _ rfl
  have z3 := hcp 3 _ rfl
  have z4 := hcp 4 _ rfl
  have hprev : (l[n - 1]?).getD default = ⟨d_0, d_1, d_2, d_3, d_4⟩ := by rw [← hp, hxp]; rfl
  rw [hprev, decide_eq_false hn0, Bool.false_or] at HEV
  obtain ⟨b4, hb4⟩ : ∃ b, b = beforeP ⟨d_0, d_1, d_2, d_3, d_4⟩ ⟨e_0, e_1, e_2, e_3, e_4⟩ := ⟨_, rfl⟩
  have HC4 := zH (fun W => refBefore_any ⟨d_0, d_1, d_2, d_3, d_4⟩ ⟨e_0, e_1, e_2, e_3, e_4⟩ W)
  rw [← hb4] at HC4 HEV
  have HS0 := HS
  replace HS := zH (show ∀ W, Below wA.heap.size wA W → W.cell? ⟨b, off + n * 5, none⟩ = some (.int .i64 e_0) ∧ W.cell? ⟨b, off + n * 5 + 1, none⟩ = some (.int .i64 e_1) ∧ W.cell? ⟨b, off + n * 5 + 2, none⟩ = some (.int .i64 e_2) ∧ W.cell? ⟨b, off + n * 5 + 3, none⟩ = some (.int .i64 e_3) ∧ W.cell? ⟨b, off + n * 5 + 4, none⟩ = some (.int .i64 e_4) ∧ W.cell? ⟨b, off + p * 5, none⟩ = some (.int .i64 d_0) ∧ W.cell? ⟨b, off + p * 5 + 1, none⟩ = some (.int .i64 d_1) ∧ W.cell? ⟨b, off + p * 5 + 2, none⟩ = some (.int .i64 d_2) ∧ W.cell? ⟨b, off + p * 5 + 3, none⟩ = some (.int .i64 d_3) ∧ W.cell? ⟨b, off + p * 5 + 4, none⟩ = some (.int .i64 d_4) from fun W hW => by
   obtain ⟨k0, k1, k2, k3, k4⟩ := HS0.out W hW
   exact ⟨k0, k1, k2, k3, k4, zB hW z0, zB hW z1, zB hW z2, zB hW z3, zB hW z4⟩)
  have hwp : IntKind.i64.wrap ((n : Int) - 1) = (p : Int) := by rw [Go.IntWalk.i64_in _ (by omega)]; omega
  have n2 : (p : Int) < (l.length : Int) := by omega
  have n3 : (0 : Int) < (n : Int) := by omega
  have n4 : 0 < n := by omega
  have HP := zH (zA hp hn0)
  clear hprev hb4 hxp hcp z0 z1 z2 z3 z4 hpl hp hn0
  cases b4 with
  | false =>
   have HF := zH (show evGood srcs l n = false by rw [HEV.out]; simp)
   go_wp2_with fail
   refine zR 44 (S := fun W => W.cell? ⟨b, off + n * 5, none⟩ = some (.int .i64 e_0) ∧ W.cell? ⟨b, off + n * 5 + 1, none⟩ = some (.int .i64 e_1) ∧ W.cell? ⟨b, off + n * 5 + 2, none⟩ = some (.int .i64 e_2) ∧ W.cell? ⟨b, off + n * 5 + 3, none⟩ = some (.int .i64 e_3) ∧ W.cell? ⟨b, off + n * 5 + 4, none⟩ = some (.int .i64 e_4) ∧ W.cell? ⟨b, off + p * 5, none⟩ = some (.int .i64 d_0) ∧ W.cell? ⟨b, off + p * 5 + 1, none⟩ = some (.int .i64 d_1) ∧ W.cell? ⟨b, off + p * 5 + 2, none⟩ = some (.int .i64 d_2) ∧ W.cell? ⟨b, off + p * 5 + 3, none⟩ = some (.int .i64 d_3) ∧ W.cell? ⟨b, off + p * 5 + 4, none⟩ = some (.int .i64 d_4)) (by kernel_rfl) (by kernel_rfl) rfl (HS.out _ HWD.out) (fun hHeld => ?_)
   try simp only [List.reduceReplicate]
   repeat (first
    | refine takeA [] (h := ?_)
    | (refine callA [] (args := ?_) (R := ?_) (he := ?_) (hc := ?_) (hargs := ?_) (h := ?_)
       rotate_left 2
       first
       | (exact E167.out; exact HC1.out _; rfl; rintro e wz ⟨rfl, rfl⟩; refine .inl ⟨_, rfl, HS.out _ HWD.out, fun hHeld => ?_⟩)
       | (exact E167.out; exact HC2.out _; rfl; rintro e wz ⟨rfl, rfl⟩; refine .inl ⟨_, rfl, HS.out _ HWD.out, fun hHeld => ?_⟩)
       | (exact E168.out; exact HC3.out _; rfl; rintro e wz ⟨rfl, hbz⟩; refine .inl ⟨_, rfl, HS.out _ (HWD.out.trans (hbz.mono HWD.out.size)), fun hHeld => ?_⟩; replace HWD := zH (HWD.out.trans (hbz.mono HWD.out.size)); clear hbz)
       | (exact E169.out; exact HC4.out _; rfl; rintro e wz ⟨rfl, hbz⟩; refine .inl ⟨_, rfl, HS.out _ (HWD.out.trans (hbz.mono HWD.out.size)), fun hHeld => ?_⟩; replace HWD := zH (HWD.out.trans (hbz.mono HWD.out.size)); clear hbz)
       refine normA (h := ?_)))
   refine wpAnyH_done (by kernel_rfl) ?_ _
   clear hHeld
   go_wp2
   go_ret
   exact ⟨ret_bool (events_bad hlt HF.out).symm, HG.out.2.1.trans (HWD.out.mono HG.out.2.1.size)⟩
  | true =>
  have HEF := zH (show evGood srcs l n = fresh l n ⟨e_0, e_1, e_2, e_3, e_4⟩ by rw [HEV.out]; simp)
  go_wp2_with fail
  refine zR 44 (S := fun W => W.cell? ⟨b, off + n * 5, none⟩ = some (.int .i64 e_0) ∧ W.cell? ⟨b, off + n * 5 + 1, none⟩ = some (.int .i64 e_1) ∧ W.cell? ⟨b, off + n * 5 + 2, none⟩ = some (.int .i64 e_2) ∧ W.cell? ⟨b, off + n * 5 + 3, none⟩ = some (.int .i64 e_3) ∧ W.cell? ⟨b, off + n * 5 + 4, none⟩ = some (.int .i64 e_4) ∧ W.cell? ⟨b, off + p * 5, none⟩ = some (.int .i64 d_0) ∧ W.cell? ⟨b, off + p * 5 + 1, none⟩ = some (.int .i64 d_1) ∧ W.cell? ⟨b, off + p * 5 + 2, none⟩ = some (.int .i64 d_2) ∧ W.cell? ⟨b, off + p * 5 + 3, none⟩ = some (.int .i64 d_3) ∧ W.cell? ⟨b, off + p * 5 + 4, none⟩ = some (.int .i64 d_4)) (by kernel_rfl) (by kernel_rfl) rfl (HS.out _ HWD.out) (fun hHeld => ?_)
  try simp only [List.reduceReplicate]
  repeat (first
   | refine takeA [] (h := ?_)
   | (refine callA [] (args := ?_) (R := ?_) (he := ?_) (hc := ?_) (hargs := ?_) (h := ?_)
      rotate_left 2
      first
      | (exact E167.out; exact HC1.out _; rfl; rintro e wz ⟨rfl, rfl⟩; refine .inl ⟨_, rfl, HS.out _ HWD.out, fun hHeld => ?_⟩)
      | (exact E167.out; exact HC2.out _; rfl; rintro e wz ⟨rfl, rfl⟩; refine .inl ⟨_, rfl, HS.out _ HWD.out, fun hHeld => ?_⟩)
      | (exact E168.out; exact HC3.out _; rfl; rintro e wz ⟨rfl, hbz⟩; refine .inl ⟨_, rfl, HS.out _ (HWD.out.trans (hbz.mono HWD.out.size)), fun hHeld => ?_⟩; replace HWD := zH (HWD.out.trans (hbz.mono HWD.out.size)); clear hbz)
      | (exact E169.out; exact HC4.out _; rfl; rintro e wz ⟨rfl, hbz⟩; refine .inl ⟨_, rfl, HS.out _ (HWD.out.trans (hbz.mono HWD.out.size)), fun hHeld => ?_⟩; replace HWD := zH (HWD.out.trans (hbz.mono HWD.out.size)); clear hbz)
      refine normA (h := ?_)))
  refine wpAnyH_done (by kernel_rfl) ?_ _
  clear hHeld HEV hwp n2 n3 n4
  go_wp2
  go_loopw [6] (fun i W => ∃ j : Nat, i = .int .i64 j ∧ j ≤ n ∧ fresh l j ⟨e_0, e_1, e_2, e_3, e_4⟩ = true ∧ Below wA.heap.size wA W) (fun i _ => n - (intOf i).toNat)
  case atStart => exact ⟨0, rfl, by omega, by simp [fresh], HWD.out⟩
  case round =>
   obtain ⟨j, rfl, hj, hfr, hB2⟩ := hrel
   by_cases hjn : j < n
   rotate_left
   ·obtain rfl : j = n := by omega
    have HB1 := zH (zA (HG.out.2.1.trans (hB2.mono HG.out.2.1.size)) hfr)
    clear hB2 hfr
    go_wp2
    go_roundw
    case rel =>
     refine ⟨j + 1, by go_num, by omega, fun k hk => ?_, HB1.out.1⟩
     by_cases hkj : k < j
     ·exact HG.out.1 k hkj
     ·obtain rfl : k = j := by omega
      rw [HEF.out]; exact HB1.out.2
    case measure => simp [intOf]; omega
   have hxj := List.getElem?_eq_getElem (show j < l.length by omega)
   generalize l[j] = q at hxj
   obtain ⟨c_0, c_1, c_2, c_3, c_4⟩ := q
   obtain ⟨b', off', he', _, hcp⟩ := rd_at (HR.out.below HG.out.2.1) hxj
   injection he' with he'
   injection he' with e1 e2
   subst e1; subst e2
   have z0 : wA.cell? ⟨b, off + j * 5, none⟩ = some (.int .i64 c_0) := hcp 0 _ rfl
   have z1 := hcp 1 _ rfl
   have HSJ := zH (show ∀ W, Below wA.heap.size wA W → W.cell? ⟨b, off + n * 5, none⟩ = some (.int .i64 e_0) ∧ W.cell? ⟨b, off + n * 5 + 1, none⟩ = some (.int .i64 e_1) ∧ W.cell? ⟨b, off + j * 5, none⟩ = some (.int .i64 c_0) ∧ W.cell? ⟨b, off + j * 5 + 1, none⟩ = some (.int .i64 c_1) from fun W hW => by
    obtain ⟨k0, k1, _⟩ := HS0.out W hW
    exact ⟨k0, k1, zB hW z0, zB hW z1⟩)
   have n2 : (j : Int) < (l.length : Int) := by omega
   have n3 : (j : Int) < (n : Int) := by omega
   have HJ := zH (zA hfr (zA hB2 hxj))
   clear hfr hB2 hcp z0 z1 hxj
   by_cases h1 : c_0 = e_0
   ·by_cases h2 : c_1 = e_1
    ·subst h1; subst h2
     have HF := zH (show evGood srcs l n = false by rw [HEF.out]; exact fresh_not hjn HJ.out.2.2 (by simp))
     go_wp2_with fail
     refine zR 24 (S := fun W => W.cell? ⟨b, off + n * 5, none⟩ = some (.int .i64 _) ∧ W.cell? ⟨b, off + n * 5 + 1, none⟩ = some (.int .i64 _) ∧ W.cell? ⟨b, off + j * 5, none⟩ = some (.int .i64 _) ∧ W.cell? ⟨b, off + j * 5 + 1, none⟩ = some (.int .i64 _)) (by kernel_rfl) (by kernel_rfl) rfl (HSJ.out _ HJ.out.2.1.drew) (fun hHeld => ?_)
     try simp only [List.reduceReplicate]
     repeat refine takeA [] (h := ?_)
     refine wpAnyH_done (by kernel_rfl) ?_ _
     clear hHeld
     go_wp2
     go_ret
     exact ⟨ret_bool (events_bad hlt HF.out).symm, HG.out.2.1.trans (HJ.out.2.1.drew.mono HG.out.2.1.size)⟩
    ·subst h1
     have h2i : (c_1 == e_1) = false := by simpa using h2
     have HF := zH (show fresh l (j + 1) ⟨c_0, e_1, e_2, e_3, e_4⟩ = true by rw [fresh_succ HJ.out.2.2, HJ.out.1]; simp [h2])
     clear h2
     go_wp2_with fail
     refine zR 24 (S := fun W => W.cell? ⟨b, off + n * 5, none⟩ = some (.int .i64 _) ∧ W.cell? ⟨b, off + n * 5 + 1, none⟩ = some (.int .i64 _) ∧ W.cell? ⟨b, off + j * 5, none⟩ = some (.int .i64 _) ∧ W.cell? ⟨b, off + j * 5 + 1, none⟩ = some (.int .i64 _)) (by kernel_rfl) (by kernel_rfl) rfl (HSJ.out _ HJ.out.2.1.drew) (fun hHeld => ?_)
     try simp only [List.reduceReplicate]
     repeat refine takeA [] (h := ?_)
     refine wpAnyH_done (by kernel_rfl) ?_ _
     clear hHeld
     go_wp2
     go_roundw
     case rel => exact ⟨j + 1, by go_num, by omega, HF.out, HJ.out.2.1.drew⟩
     case measure => simp [intOf]; omega
   ·have h1i : (c_0 == e_0) = false := by simpa using h1
    have HF := zH (show fresh l (j + 1) ⟨e_0, e_1, e_2, e_3, e_4⟩ = true by rw [fresh_succ HJ.out.2.2, HJ.out.1]; simp [h1])
    clear h1
    go_wp2_with fail
    refine zR 24 (S := fun W => W.cell? ⟨b, off + n * 5, none⟩ = some (.int .i64 _) ∧ W.cell? ⟨b, off + n * 5 + 1, none⟩ = some (.int .i64 _) ∧ W.cell? ⟨b, off + j * 5, none⟩ = some (.int .i64 _) ∧ W.cell? ⟨b, off + j * 5 + 1, none⟩ = some (.int .i64 _)) (by kernel_rfl) (by kernel_rfl) rfl (HSJ.out _ HJ.out.2.1.drew) (fun hHeld => ?_)
    try simp only [List.reduceReplicate]
    repeat refine takeA [] (h := ?_)
    refine wpAnyH_done (by kernel_rfl) ?_ _
    clear hHeld
    go_wp2
    go_roundw
    case rel => exact ⟨j + 1, by go_num, by omega, HF.out, HJ.out.2.1.drew⟩
    case measure => simp [intOf]; omega
end
end Go.Proofs.YtgiploddoffmjaaGreat
