/- My texts, joined: W6, W8, W9, W10, W11, W33, Base9, Base2, Base10. -/
import Derived.Below
import Derived.BigQuiet
import Derived.ChangeKeysEq
import Derived.Deep.AppendLies
import Derived.Deep.DeepCutAuto
import Derived.Deep.QuietTactic
import Derived.Deep.RegionHeld
import Derived.Deep.RegionHeld3
import Derived.Deep.RegionLaw
import Derived.Defers
import Derived.KernelRfl
import Derived.Laws.AppendOwn
import Derived.Laws.AppendOwnNone
import Derived.Laws.CopyRow
import Derived.Laws.Pointers
import Derived.Laws.StructEq
import Derived.Lib.Hide
import Derived.LoopIn
import Derived.LoopNIn
import Derived.LoopTactic
import Derived.MapKept
import Derived.Maps.AppendAt
import Derived.Maps.OwnOps
import Derived.Maps.RangeRun
import Derived.Maps.RangeWalk
import Derived.Outline
import Derived.OwnWalk
import Derived.OwnWalkIn
import Derived.RangeFuncBound
import Derived.RangeFuncCalls
import Derived.RangeFuncLeaves
import Derived.RangeFuncNested
import Derived.Recover
import Derived.Shelf.Abstract
import Derived.Shelf.RegionOpen
import Derived.TacticsInMore
import Derived.Test.YtgiploddoffmjaaGreatProg
import Derived.WalkKit
import Derived.WalkLawsBesides
import Derived.WalkSpells
import Derived.Test.YtgiploddoffmjaaGreatM0
import Derived.Test.YtgiploddoffmjaaGreatM1
import Derived.Test.YtgiploddoffmjaaGreatM2
import Derived.Test.YtgiploddoffmjaaGreatM3
import Derived.Test.YtgiploddoffmjaaGreatM4
import Derived.Test.YtgiploddoffmjaaGreatM5
set_option linter.unusedVariables false
set_option linter.unusedSimpArgs false
set_option linter.unusedSectionVars false
set_option maxRecDepth 10000
namespace Go.Proofs.YtgiploddoffmjaaGreat
section
open Go.RowKit Go.Shelf
abbrev queryA (x : Node) (v : Value) (within : Int) (same : Bool) : Array Value := #[.int .i64 x.op, .int .i64 x.t.src, .int .i64 x.t.low, .int .i64 x.t.high, .int .i64 x.n, v, .int .i64 within, .bool same]
set_option maxHeartbeats 4000000 in
theorem isQuery_any (x : Node) (v : Value) (within : Int) (same : Bool) (srcs : Int) (w : World) (hr : RdK w x.ks v) :
 Calls Tryz.prog 76 #[.agg (queryA x v within same), .int .i64 srcs] w fun e w' => e = .returned (.bool (queryP srcs x within)) ∧ Below w.heap.size w w' := by
 have HQ := zH (show queryP srcs x within = (inP srcs 1 4 && patP srcs x.op x.t x.n x.ks && inP within 0 200) from rfl)
 have HR := zH hr
 obtain ⟨a, c, rfl, _, _, _⟩ := hr
 have HP := fun (hs : 1 ≤ srcs ∧ srcs ≤ 4) (W : World) (hb : Below w.heap.size w W) => isPat_any x (.slice a x.ks.len c) srcs hs W (HR.out.below hb)
 obtain ⟨op, ⟨ts, tl, th⟩, pn, ks⟩ := x
 dsimp only [queryA, patA] at *
 cases hin : inP srcs 1 4 with
 | false =>
  have HIN := zH hin
  clear HP
  go_enter Tryz.func76, Tryz.ntmps76
  go_wp2_with (go_at_call 88; refine (within_any _ _ _ _).mono ?_; rintro e w' ⟨rfl, rfl⟩)
  go_ret
  exact ⟨ret_bool (by rw [HQ.out, HIN.out]; rfl), (Below.refl _ _).alloc (Nat.le_refl _) _⟩
 | true =>
  have hs : 1 ≤ srcs ∧ srcs ≤ 4 := by have := hin; unfold inP at this; simpa using this
  have HIN := zH hin
  have HPC := zH (HP hs)
  clear HP
  go_enter Tryz.func76, Tryz.ntmps76
  go_wp2_with fail
  refine zX (G := fun W => Calls _ _ _ W _) w _ _ fun w2 hb hz hx => ?_
  have c0 : w2.cell? ⟨w.heap.size, 0, none⟩ = some (.int .i64 op) := zC hx 0
  have c1 : w2.cell? ⟨w.heap.size, 1, none⟩ = some (.int .i64 ts) := zC hx 1
  have c2 : w2.cell? ⟨w.heap.size, 2, none⟩ = some (.int .i64 tl) := zC hx 2
  have c3 : w2.cell? ⟨w.heap.size, 3, none⟩ = some (.int .i64 th) := zC hx 3
  have c4 : w2.cell? ⟨w.heap.size, 4, none⟩ = some (.int .i64 pn) := zC hx 4
  have c5 : w2.cell? ⟨w.heap.size, 5, none⟩ = some (.slice a ks.len c) := zC hx 5
  have c6 : w2.cell? ⟨w.heap.size, 6, none⟩ = some (.int .i64 within) := zC hx 6
  clear hx hz
  refine (within_any _ _ _ _).mono ?_
  rintro e w1 ⟨rfl, rfl⟩
  rw [HIN.out]
  have HC := zH (HPC.out w2 hb)
  have HB := zH hb
  clear hb
  go_wp2_with fail
  refine HC.out.mono ?_
  rintro e w3 ⟨rfl, hb3⟩
  have d6 := zB hb3 c6
  have HB3 := zH hb3
  clear hb3
  cases hp : patP srcs op ⟨ts, tl, th⟩ pn ks with
  | false =>
   go_wp2
   go_ret
   exact ⟨ret_bool (by rw [HQ.out, hp, Bool.and_false]; rfl), HB.out.trans (HB3.out.mono HB.out.size)⟩
  | true =>
   have HPT := zH hp
   go_wp2_with (go_at_call 88; refine (within_any _ _ _ _).mono ?_; rintro e w' ⟨rfl, rfl⟩)
   go_ret
   exact ⟨ret_bool (by rw [HQ.out, HIN.out, HPT.out]; rfl), HB.out.trans (HB3.out.mono HB.out.size)⟩
end
section
open Go.RowKit Go.Shelf
def tooMany : List PanicEntry := [{ v := .iface 199 (.agg #[]), recovered := false }]
theorem upto_few (n most : Int) (h : n ≤ most) (w : World) : Calls Tryz.prog 213 #[.int .i64 n, .int .i64 most] w fun e w' => e = .returned (.tuple #[]) ∧ w = w' := by
 have h1 : ¬ most < n := by omega
 go_enter Tryz.func213, Tryz.ntmps213
 go_wp2
 go_end0
 exact ⟨rfl, rfl⟩
theorem upto_many (n most : Int) (h : most < n) (w : World) : Calls Tryz.prog 213 #[.int .i64 n, .int .i64 most] w fun e w' => e = .panicked tooMany ∧ w = w' := by
 go_enter Tryz.func213, Tryz.ntmps213
 go_wp2
 exact ⟨rfl, rfl, rfl⟩
theorem assert_many (w : World) : (Instr.typeAssert (.iface 199 (.agg #[])) 20 199 true).run Tryz.prog w = .ok (.tuple #[.agg #[], .bool true]) w := by
 simp [Instr.typeAssert, Sem.run_bind, go_sem, Tryz.underlying199, Result.andThen]
set_option maxRecDepth 100000 in
theorem catch_many (older : List PanicEntry) (w : World) :
 CallsD Tryz.prog 155 #[] (.panicking ({ v := .iface 199 (.agg #[]), recovered := false } :: older)) w fun e u' w' =>
  e = .returned (.tuple #[]) ∧ u' = .panicking ({ v := .iface 199 (.agg #[]), recovered := true } :: older) ∧ Below w.heap.size w w' := by
 have hta := assert_many
 refine callsD_of_wpS Tryz.func155 rfl fun c₀ cs hu => ?_
 apply wpS_seq
 apply wpS_region
 simp [wpOpsS, go_sem, recoverD, hu, Tryz.ntmps155, Exit.thenS]
 try simp only [Array.replicate_succ, Array.replicate_zero, List.push_toArray, List.append_toArray, List.nil_append, List.cons_append, List.setIfInBounds_toArray, List.set_cons_succ, List.set_cons_zero]
 refine wpS_of_wp ?_
 go_wp2
 have hb := (Below.refl w.heap.size w).alloc (Nat.le_refl _) (.cells #[] 199)
 cases c₀
 simp_all [bodyPostS, results, Tryz.results155]
set_option maxRecDepth 100000 in
theorem catch_idle (w : World) : CallsD Tryz.prog 155 #[] .returning w fun e u' w' => e = .returned (.tuple #[]) ∧ u' = .returning ∧ Below w.heap.size w w' := by
 refine callsD_of_wpS Tryz.func155 rfl fun c₀ cs hu => ?_
 apply wpS_seq
 apply wpS_region
 simp [wpOpsS, go_sem, recoverD, hu, Tryz.ntmps155, Exit.thenS]
 try simp only [Array.replicate_succ, Array.replicate_zero, List.push_toArray, List.append_toArray, List.nil_append, List.cons_append, List.setIfInBounds_toArray, List.set_cons_succ, List.set_cons_zero]
 refine wpS_of_wp ?_
 go_wp2
 cases c₀
 simp_all [bodyPostS, results, Tryz.results155]
 exact Below.refl _ _
set_option maxRecDepth 100000 in
/-- A call that may give up. -/
theorem enough_any (G : FuncId) (caps : Array Value) (he : ∀ args w, (callFunc G args).run Tryz.prog w = .ok (.enter G args) w) (R : Bool → World → Prop) (w : World)
 (hc : Calls Tryz.prog G caps w fun e w' => (e = .returned (.tuple #[]) ∧ R true w') ∨ (e = .panicked tooMany ∧ R false w')) :
 Calls Tryz.prog 91 #[.func (.func G) #[] caps] w fun e w' => ∃ b wm, e = .returned (.bool b) ∧ R b wm ∧ Below wm.heap.size wm w' := by
 have HC := zH hc
 clear hc
 go_enter_defers Tryz.func91, Tryz.ntmps91
 go_wp2_with (refine HC.out.mono ?_; rintro e w1 (⟨rfl, h1⟩ | ⟨rfl, h1⟩))
 ·refine leaves_cons (f := 155) (args := #[]) (by simp) (by simp [go_sem]) ?_
  refine (catch_idle _).mono ?_
  rintro e u' w'' ⟨rfl, rfl, hb⟩
  simp [Leaves, settle, results, Tryz.results91, go_sem]
  exact ⟨w1, h1, hb⟩
 ·refine leaves_cons (f := 155) (args := #[]) (by simp) (by simp [go_sem]) ?_
  refine (catch_many [] _).mono ?_
  rintro e u' w'' ⟨rfl, rfl, hb⟩
  simp [Leaves, settle, results, Tryz.results91, go_sem]
  exact ⟨w1, h1, hb⟩
end
section
open Go.RowKit Go.Shelf
def idxFrom {α : Type} (p : α → Bool) : List α → Nat → Int
 | [], _ => -1
 | x :: l, n => if p x then n else idxFrom p l (n + 1)
theorem idxFrom_drop {α : Type} {p : α → Bool} {xs : List α} {n : Nat} {x : α} (h : xs[n]? = some x) : idxFrom p (xs.drop n) n = if p x then (n : Int) else idxFrom p (xs.drop (n + 1)) (n + 1) := by
 obtain ⟨hlt, rfl⟩ := List.getElem?_eq_some_iff.1 h
 rw [List.drop_eq_getElem_cons hlt, idxFrom]
theorem idxFrom_any {α : Type} (p : α → Bool) : ∀ (l : List α) (n : Nat), decide (0 ≤ idxFrom p l n) = l.any p
 | [], n => by simp [idxFrom]
 | x :: l, n => by
  rw [idxFrom, List.any_cons]
  cases hp : p x with
  | true => simp
  | false => simp [idxFrom_any p l (n + 1)]
set_option maxHeartbeats 1000000 in
theorem finder_idx (G : FuncId) (q : Value) (p : Ev → Bool) (v : Value) (xs : List Ev) (w : World) (hr : Rd Ev.cells 5 w v xs) (he : ∀ args w, (callFunc G args).run Tryz.prog w = .ok (.enter G args) w)
 (hp : ∀ W x, x ∈ xs → Below w.heap.size w W → Calls Tryz.prog G #[.agg #[.int .i64 x.src, .int .i64 x.id, .int .i64 x.at_, .int .i64 x.key, .int .i64 x.val], q] W fun e w' => e = .returned (.bool (p x)) ∧ Below W.heap.size W w') :
 Calls Tryz.prog 253 #[v, .func (.func G) #[] #[q]] w fun e w' => e = .returned (.int .i64 (idxFrom p xs 0)) ∧ Below w.heap.size w w' := by
 obtain ⟨a, c, rfl⟩ : ∃ a c, v = .slice a xs.length c := by obtain ⟨_, a, c, rfl, _⟩ := hr; exact ⟨a, c, rfl⟩
 have hl63 := hr.1
 have HR := zH hr
 have HP := zH hp
 have HB := zH (Below.refl w.heap.size w)
 clear hr hp
 go_enter Tryz.func253, Tryz.ntmps253
 go_wp2
 go_loopw [8] (fun i W => ∃ (n : Nat), i = .int .i64 n ∧ n ≤ xs.length ∧ idxFrom p (xs.drop n) n = idxFrom p xs 0 ∧ Below w.heap.size w W) (fun i _ => xs.length - (intOf i).toNat)
 case atStart => exact ⟨0, rfl, by omega, rfl, HB.out⟩
 case round =>
  obtain ⟨n, rfl, hnl, hi, hB⟩ := hrel
  by_cases hlt : n < xs.length
  ·have hx := List.getElem?_eq_getElem hlt
   have hmem : xs[n] ∈ xs := List.getElem_mem hlt
   generalize xs[n] = x at hx hmem
   obtain ⟨b, off, rfl, hbl, hc⟩ := rd_at (HR.out.below hB) hx
   have q0 : wr.cell? ⟨b, off + n * 5, none⟩ = some (.int .i64 x.src) := hc 0 _ rfl
   have q1 := hc 1 _ rfl
   have q2 := hc 2 _ rfl
   have q3 := hc 3 _ rfl
   have q4 := hc 4 _ rfl
   have hd := idxFrom_drop (p := p) hx
   rw [hi] at hd
   have HX := zH (zA hd (zA hB (HP.out wr x hmem hB)))
   clear hd hB hi hc hx hmem
   cases hpx : p x with
   | true =>
    have HPX := zH hpx
    clear hpx
    go_wp2_with (refine (HX.out.2.2).mono ?_; rintro e w2 ⟨rfl, hb2⟩; rw [HPX.out])
    go_ret
    exact ⟨ret_int (by rw [HX.out.1, if_pos HPX.out]), HX.out.2.1.trans (hb2.mono HX.out.2.1.size)⟩
   | false =>
    have HPX := zH hpx
    clear hpx
    go_wp2_with (refine (HX.out.2.2).mono ?_; rintro e w2 ⟨rfl, hb2⟩; rw [HPX.out])
    go_roundw
    case rel => exact ⟨n + 1, by go_num, by omega, by rw [HX.out.1, HPX.out]; rfl, HX.out.2.1.trans (hb2.mono HX.out.2.1.size)⟩
    case measure => simp [intOf]; omega
  ·obtain rfl : n = xs.length := by omega
   have HX := zH (zA hi hB)
   clear hi hB
   go_wp2
   go_ret
   exact ⟨ret_int (by rw [← HX.out.1, List.drop_length]; rfl), HX.out.2⟩
theorem finder_has (G : FuncId) (q : Value) (p : Ev → Bool) (v : Value) (xs : List Ev) (w : World) (hr : Rd Ev.cells 5 w v xs) (he : ∀ args w, (callFunc G args).run Tryz.prog w = .ok (.enter G args) w)
 (hp : ∀ W x, x ∈ xs → Below w.heap.size w W → Calls Tryz.prog G #[.agg #[.int .i64 x.src, .int .i64 x.id, .int .i64 x.at_, .int .i64 x.key, .int .i64 x.val], q] W fun e w' => e = .returned (.bool (p x)) ∧ Below W.heap.size W w') :
 Calls Tryz.prog 211 #[v, .func (.func G) #[] #[q]] w fun e w' => e = .returned (.bool (xs.any p)) ∧ Below w.heap.size w w' := by
 have HI := zH (finder_idx G q p v xs w hr he hp)
 have ha := idxFrom_any p xs 0
 have HA := zH ha
 clear ha hr hp he
 generalize idxFrom p xs 0 = r at *
 go_enter Tryz.func211, Tryz.ntmps211
 go_wp2_with (go_at_call 253; refine HI.out.mono ?_; rintro e w2 ⟨rfl, hb2⟩)
 go_ret
 exact ⟨ret_bool HA.out, hb2⟩
def LackAt (w : World) (p : Option Addr) : Option Test → Prop
 | none => p = none
 | some t => ∃ b o, p = some ⟨b, o, none⟩ ∧ b < w.heap.size ∧ w.cell? ⟨b, o, none⟩ = some (.int .i64 t.src) ∧ w.cell? ⟨b, o + 1, none⟩ = some (.int .i64 t.low) ∧ w.cell? ⟨b, o + 2, none⟩ = some (.int .i64 t.high)
theorem LackAt.below {w w1 : World} {p : Option Addr} {t : Option Test} (h : LackAt w p t) (hb : Below w.heap.size w w1) : LackAt w1 p t := by
 cases t with
 | none => exact h
 | some t =>
  obtain ⟨b, o, h0, h1, h2, h3, h4⟩ := h
  exact ⟨b, o, h0, Nat.lt_of_lt_of_le h1 hb.size, zB hb h2, zB hb h3, zB hb h4⟩
set_option maxHeartbeats 4000000 in
theorem lackIs_any (t : Test) (e : Ev) (T b o : Nat) (w : World) (hT : w.cell? ⟨T, 0, none⟩ = some (.pointer (some ⟨b, o, none⟩))) (h0 : w.cell? ⟨b, o, none⟩ = some (.int .i64 t.src)) (h1 : w.cell? ⟨b, o + 1, none⟩ = some (.int .i64 t.low)) (h2 : w.cell? ⟨b, o + 2, none⟩ = some (.int .i64 t.high)) :
 Calls Tryz.prog 212 #[.agg #[.int .i64 e.src, .int .i64 e.id, .int .i64 e.at_, .int .i64 e.key, .int .i64 e.val], .pointer (some ⟨T, 0, none⟩)] w fun e' w' => e' = .returned (.bool (holdsP t e)) ∧ Below w.heap.size w w' := by
 obtain ⟨ts, tl, th⟩ := t
 obtain ⟨es, id, at_, key, val⟩ := e
 go_enter Tryz.func212, Tryz.ntmps212
 go_wp2_with fail
 refine zX (G := fun W => Code.wp _ _ _ _ W) w _ _ fun w2 hb hz hx => ?_
 have hbd : Below w.heap.size w w2.drew := hb.trans ((Below.refl w2.heap.size w2).drew.mono hb.size)
 have hb2 : Below w2.heap.size w2 w2.drew := (Below.refl _ _).drew
 have c0 := zB hb2 (show w2.cell? ⟨w.heap.size, 0, none⟩ = some (.int .i64 es) from zC hx 0)
 have c1 := zB hb2 (show w2.cell? ⟨w.heap.size, 1, none⟩ = some (.int .i64 id) from zC hx 1)
 have c2 := zB hb2 (show w2.cell? ⟨w.heap.size, 2, none⟩ = some (.int .i64 at_) from zC hx 2)
 have c3 := zB hb2 (show w2.cell? ⟨w.heap.size, 3, none⟩ = some (.int .i64 key) from zC hx 3)
 have c4 := zB hb2 (show w2.cell? ⟨w.heap.size, 4, none⟩ = some (.int .i64 val) from zC hx 4)
 have d := zB hbd hT
 have d0 := zB hbd h0
 have d1 := zB hbd h1
 have d2 := zB hbd h2
 have HB := zH hbd
 clear hx hz hb hb2 hbd hT h0 h1 h2
 go_region_held3 (fun W => W.cell? ⟨w.heap.size, 0, none⟩ = some (.int .i64 es) ∧ W.cell? ⟨w.heap.size, 1, none⟩ = some (.int .i64 id) ∧ W.cell? ⟨w.heap.size, 2, none⟩ = some (.int .i64 at_) ∧ W.cell? ⟨w.heap.size, 3, none⟩ = some (.int .i64 key) ∧ W.cell? ⟨w.heap.size, 4, none⟩ = some (.int .i64 val) ∧ W.cell? ⟨T, 0, none⟩ = some (.pointer (some ⟨b, o, none⟩)) ∧ W.cell? ⟨b, o, none⟩ = some (.int .i64 ts) ∧ W.cell? ⟨b, o + 1, none⟩ = some (.int .i64 tl) ∧ W.cell? ⟨b, o + 2, none⟩ = some (.int .i64 th)) (first | exact ⟨c0, c1, c2, c3, c4, d, d0, d1, d2⟩ | exact ⟨zB hbJ c0, zB hbJ c1, zB hbJ c2, zB hbJ c3, zB hbJ c4, zB hbJ d, zB hbJ d0, zB hbJ d1, zB hbJ d2⟩ | go_keep) ((first | (go_at_call 156; ((with_reducible refine (holds_any ⟨ts, tl, th⟩ ⟨es, id, at_, key, val⟩ _).mono ?_)); rintro _ wK ⟨rfl, hbJ⟩; replace HB := zH (HB.out.trans (hbJ.mono HB.out.size))) | fail))
 all_goals
  go_wp2
  go_ret
  exact ⟨rfl, HB.out⟩
end
section
open Go.RowKit Go.Shelf
section
variable (l : List Ev) (al : Option Addr) (cl a b : Nat) (n : Int) (lp : Option Addr) (lk : Option Test) (w : World)
theorem linkP_none (l : List Ev) (n a b : Int) : linkP l n none a b = followsP l a b n := by unfold linkP; simp
theorem linkP_some (l : List Ev) (n : Int) (t : Test) (a b : Int) : linkP l n (some t) a b = (followsP l a b n && lacksP l t a b) := rfl
theorem linkP_false {l : List Ev} {n a b : Int} {lk : Option Test} (h : followsP l a b n = false) : linkP l n lk a b = false := by unfold linkP; rw [h]; rfl
theorem evAt_get {l : List Ev} {i : Nat} (h : i < l.length) : l[i]? = some (evAt l i) := by
 unfold evAt
 rw [Int.toNat_natCast, List.getElem?_eq_getElem h]
 rfl
set_option maxHeartbeats 4000000 in
theorem follows_no (h : b ≤ a) : Calls Tryz.prog 157 #[.slice al l.length cl, .int .i64 a, .int .i64 b, .int .i64 n, .pointer lp] w fun e w' => e = .returned (.bool (linkP l n lk a b)) ∧ Below w.heap.size w w' := by
 have hv : linkP l n lk a b = false := by unfold linkP followsP; rw [decide_eq_false (by omega)]; rfl
 have HV := zH hv
 clear hv
 go_enter Tryz.func157, Tryz.ntmps157
 go_wp2_with fail
 refine zX (G := fun W => Code.wp _ _ _ _ W) w _ _ fun w2 hb hz hx => ?_
 have b0 : w2.cell? ⟨w.heap.size, 0, none⟩ = some (.pointer lp) := zC hx 0
 have hb2 : Below w2.heap.size w2 w2.drew := (Below.refl _ _).drew
 replace b0 := zB hb2 b0
 have HB := zH (hb.trans (hb2.mono hb.size))
 clear hx hz
 have h1 : (b : Int) ≤ (a : Int) := by omega
 try refine wp_region_noPanic ?_
 refine wp_region_held_drew (S := fun W => True) (by kernel_rfl) trivial (fun hHeld => ?_)
 refine takeI 0 (h := ?_)
 refine takeI 1 (h := ?_)
 refine takeI 2 (h := ?_)
 refine takeI 3 (h := ?_)
 refine takeS 4 (h := ?_)
 refine takeS 5 (h := ?_)
 refine takeS 6 (h := ?_)
 refine takeS 7 (h := ?_)
 refine takeS 8 (h := ?_)
 refine takeS 9 (h := ?_)
 refine takeS 10 (h := ?_)
 refine takeS 11 (h := ?_)
 refine takeS 12 (h := ?_)
 refine takeS 13 (h := ?_)
 refine takeS 14 (h := ?_)
 refine takeS 15 (h := ?_)
 refine takeS 16 (h := ?_)
 refine takeS 17 (h := ?_)
 refine takeS 18 (h := ?_)
 refine takeI 19 (h := ?_)
 refine wpAnyH_done (by kernel_rfl) ?_ _
 try refine NoPanic.normal ?_
 go_wp2
 go_ret
 exact ⟨ret_bool HV.out.symm, HB.out⟩
set_option maxHeartbeats 8000000 in
theorem follows_lt (hr : Rd Ev.cells 5 w (.slice al l.length cl) l) (hcl : l.length ≤ cl) (hat : ∀ e ∈ l, 0 ≤ e.at_ ∧ e.at_ ≤ 200) (hl60 : l.length ≤ 60) (hlk : LackAt w lp lk) (h : a < b) (hbl : b < l.length) : Calls Tryz.prog 157 #[.slice al l.length cl, .int .i64 a, .int .i64 b, .int .i64 n, .pointer lp] w fun e w' => e = .returned (.bool (linkP l n lk a b)) ∧ Below w.heap.size w w' := by
 have ha := evAt_get (l := l) (i := a) (by omega)
 have hbv := evAt_get (l := l) (i := b) hbl
 have ta := hat _ (List.mem_of_getElem? ha)
 have tb := hat _ (List.mem_of_getElem? hbv)
 obtain ⟨bl, off, rfl, hblk, hca⟩ := rd_at hr ha
 obtain ⟨bl', off', he, _, hcb⟩ := rd_at hr hbv
 obtain ⟨rfl, rfl⟩ : bl = bl' ∧ off = off' := by simpa using he
 have x0 : w.cell? ⟨bl, off + a * 5 + 2, none⟩ = some (.int .i64 (evAt l a).at_) := hca 2 _ rfl
 have y0 : w.cell? ⟨bl, off + b * 5 + 2, none⟩ = some (.int .i64 (evAt l b).at_) := hcb 2 _ rfl
 have HFO := zH (show followsP l a b n = (decide ((a : Int) < b) && decide ((evAt l b).at_ - (evAt l a).at_ ≤ n)) from rfl)
 have HR := zH hr
 have HLK := zH hlk
 clear hca hcb he hr hlk ha hbv hat
 generalize (evAt l a).at_ = ea at *
 generalize (evAt l b).at_ = eb at *
 go_enter Tryz.func157, Tryz.ntmps157
 go_wp2_with fail
 refine zX (G := fun W => Code.wp _ _ _ _ W) w _ _ fun w2 hb hz hx => ?_
 have b0 : w2.cell? ⟨w.heap.size, 0, none⟩ = some (.pointer lp) := zC hx 0
 have hb2 : Below w2.heap.size w2 w2.drew := (Below.refl _ _).drew
 replace b0 := zB hb2 b0
 have HB := zH (hb.trans (hb2.mono hb.size))
 clear hx hz
 have h1 : ¬ (b : Int) ≤ (a : Int) := by omega
 have hw : IntKind.i64.wrap (eb - ea) = eb - ea := Go.IntWalk.i64_in _ (by omega)
 have n1 : (a : Int) < (l.length : Int) := by omega
 have n2 : (b : Int) < (l.length : Int) := by omega
 have n3 : (0 : Int) ≤ (a : Int) := by omega
 have n4 : (0 : Int) ≤ (b : Int) := by omega
 have hba : Below w.heap.size w w2.drew := hb.trans (hb2.mono hb.size)
 replace x0 := zB hba x0
 replace y0 := zB hba y0
 replace HR := zH (HR.out.below hba)
 replace HLK := zH (HLK.out.below hba)
 clear hb hb2 hba
 try refine wp_region_noPanic ?_
 refine wp_region_held_drew (S := fun W => W.cell? ⟨bl, off + a * 5 + 2, none⟩ = some (.int .i64 ea) ∧ W.cell? ⟨bl, off + b * 5 + 2, none⟩ = some (.int .i64 eb)) (by kernel_rfl) ⟨x0, y0⟩ (fun hHeld => ?_)
 refine takeI 0 (h := ?_)
 refine takeI 1 (h := ?_)
 refine takeI 2 (h := ?_)
 refine takeI 3 (h := ?_)
 refine takeI 4 (h := ?_)
 refine takeI 5 (h := ?_)
 refine takeI 6 (h := ?_)
 refine takeI 7 (h := ?_)
 refine takeI 8 (h := ?_)
 refine takeI 9 (h := ?_)
 refine takeI 10 (h := ?_)
 refine takeI 11 (h := ?_)
 refine takeI 12 (h := ?_)
 refine takeI 13 (h := ?_)
 refine takeI 14 (h := ?_)
 refine takeI 15 (h := ?_)
 refine takeI 16 (h := ?_)
 refine takeI 17 (h := ?_)
 refine takeI 18 (h := ?_)
 refine takeI 19 (h := ?_)
 refine wpAnyH_done (by kernel_rfl) ?_ _
 try refine NoPanic.normal ?_
 by_cases hgt : n < eb - ea
 ·have hv : linkP l n lk a b = false := linkP_false (by rw [HFO.out, decide_eq_false (show ¬ eb - ea ≤ n by omega), Bool.and_false])
  have HV := zH hv
  clear hv
  go_wp2
  go_ret
  exact ⟨ret_bool HV.out.symm, HB.out⟩
 have hfo : followsP l a b n = true := by rw [HFO.out, decide_eq_true (by omega), decide_eq_true (by omega)]; rfl
 have HF := zH hfo
 clear hfo
 cases lk with
 | none =>
  have hlp : lp = none := HLK.out
  subst hlp
  go_wp2
  go_ret
  exact ⟨ret_bool (by rw [linkP_none, HF.out]), HB.out⟩
 | some t =>
  obtain ⟨pb, po, hlp, hpb, p0, p1, p2⟩ := HLK.out
  subst hlp
  have hw2 : IntKind.i64.wrap ((a : Int) + 1) = (a : Int) + 1 := Go.IntWalk.i64_in _ (by omega)
  have m1 : (0 : Int) ≤ (a : Int) + 1 := by omega
  have m2 : (a : Int) + 1 ≤ (b : Int) := by omega
  have m3 : (b : Int) ≤ (cl : Int) := by omega
  have m4 : ¬ ((cl : Int) = (a : Int) + 1) := by omega
  have m5 : ¬ ((a : Int) + 1 = (cl : Int)) := by omega
  have r1 := rd_cut HR.out (a + 1) b (by omega) (by omega) (off + (a + 1) * 5) (cl - (a + 1)) (fun _ => rfl)
  have hcut : (l.drop (a + 1)).take (b - (a + 1)) = (l.take b).drop (a + 1) := (List.drop_take ..).symm
  rw [hcut] at r1
  have hlen : ((l.take b).drop (a + 1)).length = b - (a + 1) := by rw [List.length_drop, List.length_take]; omega
  have HCF := zH (finder_has 212 (.pointer (some ⟨w.heap.size, 0, none⟩)) (holdsP t) _ _ w2.drew r1 (enters_of Tryz.func212 (by kernel_rfl) rfl) (fun W x hx hW => lackIs_any t x w.heap.size pb po W (zB hW b0) (zB hW p0) (zB hW p1) (zB hW p2)))
  have hlk : lacksP l t a b = !((l.take b).drop (a + 1)).any (holdsP t) := by
   unfold lacksP
   rw [show ((b : Int)).toNat = b from rfl, show ((a : Int) + 1).toNat = a + 1 by omega]
   induction (l.take b).drop (a + 1) with
   | nil => rfl
   | cons e s ih => rw [List.all_cons, List.any_cons, ih, Bool.not_or]
  obtain ⟨g, hg⟩ : ∃ g, g = ((l.take b).drop (a + 1)).any (holdsP t) := ⟨_, rfl⟩
  rw [← hg] at HCF hlk
  have HLA := zH hlk
  clear hlk hg r1 hcut hlen p0 p1 p2
  go_wp2_with (go_at_call 211; go_loud (refine HCF.out.mono ?_; rintro e w3 ⟨rfl, hb3⟩))
  go_ret
  exact ⟨ret_bool (by rw [linkP_some, HF.out, Bool.true_and]; exact HLA.out.symm), HB.out.trans (hb3.mono HB.out.size)⟩
theorem follows_any (hr : Rd Ev.cells 5 w (.slice al l.length cl) l) (hcl : l.length ≤ cl) (hat : ∀ e ∈ l, 0 ≤ e.at_ ∧ e.at_ ≤ 200) (hl60 : l.length ≤ 60) (hlk : LackAt w lp lk) (hbl : b < l.length) : Calls Tryz.prog 157 #[.slice al l.length cl, .int .i64 a, .int .i64 b, .int .i64 n, .pointer lp] w fun e w' => e = .returned (.bool (linkP l n lk a b)) ∧ Below w.heap.size w w' := by
 by_cases h : a < b
 ·exact follows_lt l al cl a b n lp lk w hr hcl hat hl60 hlk h hbl
 ·exact follows_no l al cl a b n lp lk w (by omega)
end
end
section
open Go.RowKit Go.Shelf
def intC (z : Int) : List Value := [.int .i64 z]
theorem intC_len (z : Int) : (intC z).length = 1 := rfl
def cmpP (a b : Int) : Int := if a < b then -1 else if a > b then 1 else 0
theorem isNaN_any (a : Int) (w : World) : Calls Tryz.prog 261 #[.int .i64 a] w fun e w' => e = .returned (.bool false) ∧ w = w' := by
 have h : (a != a) = false := by simp
 go_enter Tryz.func261, Tryz.ntmps261
 go_wp2
 go_ret
 exact ⟨by simp, rfl⟩
theorem compare_any (a b : Int) (w : World) : Calls Tryz.prog 216 #[.int .i64 a, .int .i64 b] w fun e w' => e = .returned (.int .i64 (cmpP a b)) ∧ w = w' := by
 unfold cmpP
 by_cases h1 : a < b <;> by_cases h2 : a > b <;>
 (go_enter Tryz.func216, Tryz.ntmps216
  go_wp2_with (go_at_call 261; refine (isNaN_any _ _).mono ?_; rintro e w' ⟨rfl, rfl⟩)
  all_goals (first | (exfalso; omega) | (go_ret; exact ⟨by simp [h1, h2], rfl⟩)))
theorem ordL_both {xs ys : List Int} {n : Nat} {x y : Int} (hx : xs[n]? = some x) (hy : ys[n]? = some y) : ordL (xs.drop n) (ys.drop n) = if x ≠ y then x - y else ordL (xs.drop (n + 1)) (ys.drop (n + 1)) := by
 obtain ⟨h1, rfl⟩ := List.getElem?_eq_some_iff.1 hx
 obtain ⟨h2, rfl⟩ := List.getElem?_eq_some_iff.1 hy
 rw [List.drop_eq_getElem_cons h1, List.drop_eq_getElem_cons h2, ordL]
theorem ordL_nil_l (ys : List Int) : ordL [] ys = -(ys.length : Int) := by cases ys <;> simp [ordL]
theorem ordL_nil_r (xs : List Int) : ordL xs [] = (xs.length : Int) := by cases xs <;> simp [ordL]
def smallL (xs : List Int) : Prop := ∀ z ∈ xs, -1000000000 ≤ z ∧ z ≤ 1000000000
set_option maxHeartbeats 4000000 in
theorem refOrder_any (v1 v2 : Value) (xs ys : List Int) (w : World) (h1 : Rd intC 1 w v1 xs) (h2 : Rd intC 1 w v2 ys) (s1 : smallL xs) (s2 : smallL ys) :
 Calls Tryz.prog 28 #[v1, v2] w fun e w' => e = .returned (.int .i64 (ordL xs ys)) ∧ Below w.heap.size w w' := by
 obtain ⟨a1, c1, rfl⟩ : ∃ a c, v1 = .slice a xs.length c := by obtain ⟨_, a, c, rfl, _⟩ := h1; exact ⟨a, c, rfl⟩
 obtain ⟨a2, c2, rfl⟩ : ∃ a c, v2 = .slice a ys.length c := by obtain ⟨_, a, c, rfl, _⟩ := h2; exact ⟨a, c, rfl⟩
 have l1 := h1.1
 have l2 := h2.1
 have R1 := zH h1
 have R2 := zH h2
 have S1 := zH s1
 have S2 := zH s2
 clear h1 h2 s1 s2
 go_enter Tryz.func28, Tryz.ntmps28
 go_wp2
 go_loopw [5] (fun i W => ∃ n : Nat, i = .int .i64 n ∧ n ≤ xs.length ∧ n ≤ ys.length ∧ ordL (xs.drop n) (ys.drop n) = ordL xs ys ∧ Below w.heap.size w W) (fun i _ => xs.length - (intOf i).toNat)
 case atStart => exact ⟨0, rfl, by omega, by omega, rfl, Below.refl _ _⟩
 case round =>
  obtain ⟨n, rfl, hn1, hn2, ho, hB⟩ := hrel
  by_cases hx1 : n < xs.length
  ·by_cases hy1 : n < ys.length
   ·have hx := List.getElem?_eq_getElem hx1
    have hy := List.getElem?_eq_getElem hy1
    have mx : xs[n] ∈ xs := List.getElem_mem hx1
    have my : ys[n] ∈ ys := List.getElem_mem hy1
    generalize xs[n] = x at hx mx
    generalize ys[n] = y at hy my
    have bx := S1.out x mx
    have by_ := S2.out y my
    obtain ⟨b1, o1, rfl, _, hc1⟩ := rd_at (R1.out.below hB) hx
    obtain ⟨b2, o2, rfl, _, hc2⟩ := rd_at (R2.out.below hB) hy
    have q1 : wr.cell? ⟨b1, o1 + n * 1, none⟩ = some (.int .i64 x) := hc1 0 _ rfl
    have q2 : wr.cell? ⟨b2, o2 + n * 1, none⟩ = some (.int .i64 y) := hc2 0 _ rfl
    rw [Nat.mul_one] at q1 q2
    have hwd : IntKind.i64.wrap (x - y) = x - y := Go.IntWalk.i64_in _ (by omega)
    have HO := zH (zA (ordL_both hx hy) (zA ho hB))
    clear hc1 hc2 hx hy mx my ho hB bx by_
    by_cases hxy : x = y
    ·have hd : (x != y) = false := by simp [hxy]
     have HE := zH hxy
     clear hxy
     go_wp2
     go_quiet (fail)
     go_wp2
     go_roundw
     case rel => exact ⟨n + 1, by go_num, by omega, by omega, by rw [← HO.out.2.1, HO.out.1, if_neg (by simp [HE.out])], below_drewN HO.out.2.2 _⟩
     case measure => simp [intOf]; omega
    ·have hd : (x != y) = true := by simp [hxy]
     have HE := zH hxy
     clear hxy
     go_wp2
     go_quiet (fail)
     go_wp2
     go_quiet (fail)
     go_wp2
     go_ret
     exact ⟨ret_int (by rw [← HO.out.2.1, HO.out.1, if_pos HE.out]), below_drewN (below_drewN HO.out.2.2 _) _⟩
   ·have hyl : n = ys.length := by omega
    have hv : ordL xs ys = (xs.length : Int) - ys.length := by rw [← ho, hyl, List.drop_length, ordL_nil_r, List.length_drop]; omega
    have hwl : IntKind.i64.wrap ((xs.length : Int) - (ys.length : Int)) = (xs.length : Int) - ys.length := Go.IntWalk.i64_in _ (by omega)
    have HV := zH (zA hv hB)
    have n1 : ¬ (n : Int) < (ys.length : Int) := by omega
    have n2 : (n : Int) < (xs.length : Int) := by omega
    clear hv hyl ho hB
    go_wp2
    go_ret
    exact ⟨ret_int HV.out.1.symm, HV.out.2⟩
  ·have hxl : n = xs.length := by omega
   have hv : ordL xs ys = (xs.length : Int) - ys.length := by rw [← ho, hxl, List.drop_length, ordL_nil_l, List.length_drop]; omega
   have hwl : IntKind.i64.wrap ((xs.length : Int) - (ys.length : Int)) = (xs.length : Int) - ys.length := Go.IntWalk.i64_in _ (by omega)
   have HV := zH (zA hv hB)
   have n2 : ¬ (n : Int) < (xs.length : Int) := by omega
   clear hv hxl ho hB
   go_wp2
   go_ret
   exact ⟨ret_int HV.out.1.symm, HV.out.2⟩
theorem cmpL_both {xs ys : List Int} {n : Nat} {x y : Int} (hx : xs[n]? = some x) (hy : ys[n]? = some y) : cmpL (xs.drop n) (ys.drop n) = if cmpP x y ≠ 0 then cmpP x y else cmpL (xs.drop (n + 1)) (ys.drop (n + 1)) := by
 obtain ⟨h1, rfl⟩ := List.getElem?_eq_some_iff.1 hx
 obtain ⟨h2, rfl⟩ := List.getElem?_eq_some_iff.1 hy
 rw [List.drop_eq_getElem_cons h1, List.drop_eq_getElem_cons h2, cmpL]
 unfold cmpP
 by_cases ha : xs[n] < ys[n]
 ·simp [ha]
 ·by_cases hb : xs[n] > ys[n]
  ·have : ys[n] < xs[n] := hb
   simp [ha, this]
  ·have : ¬ ys[n] < xs[n] := hb
   simp [ha, this]
end
section
open Go.RowKit Go.Shelf
def firstNZ : List Int → Int
 | [] => 0
 | x :: l => if x ≠ 0 then x else firstNZ l
theorem firstNZ_drop {xs : List Int} {n : Nat} {x : Int} (h : xs[n]? = some x) : firstNZ (xs.drop n) = if x ≠ 0 then x else firstNZ (xs.drop (n + 1)) := by
 obtain ⟨hlt, rfl⟩ := List.getElem?_eq_some_iff.1 h
 rw [List.drop_eq_getElem_cons hlt, firstNZ]
set_option maxHeartbeats 1000000 in
theorem cmpOr_any (b : Nat) (xs : List Int) (w : World) (hl : xs.length ≤ 100) (hc : ∀ (i : Nat) (x : Int), xs[i]? = some x → w.cell? ⟨b, i, none⟩ = some (.int .i64 x)) :
 Calls Tryz.prog 144 #[.slice (some ⟨b, 0, none⟩) xs.length xs.length] w fun e w' => e = .returned (.int .i64 (firstNZ xs)) ∧ w = w' := by
 have HC := zH hc
 clear hc
 go_enter Tryz.func144, Tryz.ntmps144
 go_wp2
 go_loopw [8] (fun i W => ∃ (n : Nat), i = .int .i64 n ∧ n ≤ xs.length ∧ firstNZ (xs.drop n) = firstNZ xs ∧ w = W) (fun i _ => xs.length - (intOf i).toNat)
 case atStart => exact ⟨0, rfl, by omega, rfl, rfl⟩
 case round =>
  obtain ⟨n, rfl, hnl, hi, rfl⟩ := hrel
  by_cases hlt : n < xs.length
  ·have hx := List.getElem?_eq_getElem hlt
   generalize xs[n] = x at hx
   have q0 := HC.out n x hx
   have hd := firstNZ_drop hx
   rw [hi] at hd
   have HX := zH hd
   have n1 : (n : Int) < (xs.length : Int) := by omega
   clear hd hi hx
   by_cases hz : x = 0
   ·go_wp2
    go_roundw
    case rel => exact ⟨n + 1, by go_num, by omega, by rw [HX.out, if_neg (by simp [hz])], by first | rfl | trivial⟩
    case measure => simp [intOf]; omega
   ·go_wp2
    go_ret
    exact ⟨ret_int (by rw [HX.out, if_pos hz]), by first | rfl | trivial⟩
  ·obtain rfl : n = xs.length := by omega
   have HX := zH hi
   clear hi
   go_wp2
   go_ret
   exact ⟨ret_int (by rw [← HX.out, List.drop_length]; rfl), by first | rfl | trivial⟩
def small1 (z : Int) : Prop := -1000000000 ≤ z ∧ z ≤ 1000000000
def ordE (a b : Ev) : Int := firstNZ [a.at_ - b.at_, a.src - b.src, a.id - b.id]
theorem ordE_before (a b : Ev) : (0 ≤ ordE a b) ↔ beforeP a b = false := by
 have e : ∀ x y : Int, (x - y = 0) = (x = y) := fun x y => by rw [eq_iff_iff]; omega
 simp only [ordE, beforeP, firstNZ, ne_eq, e, ite_not]
 by_cases h1 : a.at_ = b.at_ <;> by_cases h2 : a.src = b.src <;> by_cases h3 : a.id = b.id <;> simp [h1, h2, h3] <;> omega
theorem order_any (a b : Ev) (w : World) (ha : small1 a.at_ ∧ small1 a.src ∧ small1 a.id) (hb : small1 b.at_ ∧ small1 b.src ∧ small1 b.id) :
 Calls Tryz.prog 154 #[.agg #[.int .i64 a.src, .int .i64 a.id, .int .i64 a.at_, .int .i64 a.key, .int .i64 a.val], .agg #[.int .i64 b.src, .int .i64 b.id, .int .i64 b.at_, .int .i64 b.key, .int .i64 b.val]] w fun e w' => e = .returned (.int .i64 (ordE a b)) ∧ Below w.heap.size w w' := by
 obtain ⟨s0, ai, at_, ak, av⟩ := a
 obtain ⟨bs, bi, bt, bk, bv⟩ := b
 dsimp only [small1] at ha hb
 have h1 : IntKind.i64.wrap (at_ - bt) = at_ - bt := Go.IntWalk.i64_in _ (by omega)
 have h2 : IntKind.i64.wrap (s0 - bs) = s0 - bs := Go.IntWalk.i64_in _ (by omega)
 have h3 : IntKind.i64.wrap (ai - bi) = ai - bi := Go.IntWalk.i64_in _ (by omega)
 clear ha hb
 have HB := zH (fun o1 o2 o3 => (((Below.refl w.heap.size w).alloc (Nat.le_refl _) o1).alloc (by simp) o2).alloc (by simp; omega) o3)
 go_enter Tryz.func154, Tryz.ntmps154
 go_wp2_with (go_at_call 144; (refine (cmpOr_any (w.heap.size + 1 + 1) [at_ - bt, s0 - bs, ai - bi] _ (by simp) ?_).mono ?_); (intro i x h; rcases i with _ | _ | _ | i <;> simp at h <;> subst h <;> go_simp); rintro e w2 ⟨rfl, rfl⟩)
 go_ret
 exact ⟨rfl, HB.out _ _ _⟩
abbrev edgeA (e : Edge) : Array Value := #[.int .i64 e.from_, .int .i64 e.to_, .int .i64 e.n, .bool e.lack, .int .i64 e.t.src, .int .i64 e.t.low, .int .i64 e.t.high]
def edgeSm (e : Edge) : Prop := small1 e.from_ ∧ small1 e.to_ ∧ small1 e.n ∧ small1 e.t.src ∧ small1 e.t.low ∧ small1 e.t.high
theorem edgeOrd_nz (a b : Edge) : edgeOrd a b = firstNZ [a.from_ - b.from_, a.to_ - b.to_, a.n - b.n, (if a.lack ≠ b.lack then (if a.lack then 1 else -1) else 0), a.t.src - b.t.src, a.t.low - b.t.low, a.t.high - b.t.high] := by
 have f1 : ∀ x : Int, firstNZ [x] = x := fun x => by simp only [firstNZ]; split <;> omega
 have f2 : ∀ (x y : Int) (l : List Int), firstNZ (x :: y :: l) = if x ≠ 0 then x else firstNZ (y :: l) := fun _ _ _ => rfl
 have s : ∀ x y : Int, (x - y ≠ 0) = (x ≠ y) := fun x y => by rw [eq_iff_iff]; omega
 simp only [edgeOrd, testOrd, f2, f1, s]
 by_cases h : a.lack = b.lack
 ·simp [h]
 ·cases hl : a.lack <;> cases hm : b.lack <;> simp_all
set_option maxHeartbeats 4000000 in
theorem edges_any (a b : Edge) (w : World) (ha : edgeSm a) (hb : edgeSm b) :
 Calls Tryz.prog 79 #[.agg (edgeA a), .agg (edgeA b)] w fun e w' => e = .returned (.int .i64 (edgeOrd a b)) ∧ Below w.heap.size w w' := by
 have HE := zH (edgeOrd_nz a b)
 obtain ⟨af, at_, an, al, ⟨s0, alo, ahi⟩⟩ := a
 obtain ⟨bf, bt, bn, bl, ⟨bs, blo, bhi⟩⟩ := b
 dsimp only [edgeSm, small1] at ha hb
 have h1 : IntKind.i64.wrap (af - bf) = af - bf := Go.IntWalk.i64_in _ (by omega)
 have h2 : IntKind.i64.wrap (at_ - bt) = at_ - bt := Go.IntWalk.i64_in _ (by omega)
 have h3 : IntKind.i64.wrap (an - bn) = an - bn := Go.IntWalk.i64_in _ (by omega)
 have h4 : IntKind.i64.wrap (s0 - bs) = s0 - bs := Go.IntWalk.i64_in _ (by omega)
 have h5 : IntKind.i64.wrap (alo - blo) = alo - blo := Go.IntWalk.i64_in _ (by omega)
 have h6 : IntKind.i64.wrap (ahi - bhi) = ahi - bhi := Go.IntWalk.i64_in _ (by omega)
 clear ha hb
 have HB := zH (fun o1 o2 o3 => (((Below.refl w.heap.size w).alloc (Nat.le_refl _) o1).alloc (by simp) o2).alloc (by simp; omega) o3)
 cases al <;> cases bl
 ·go_enter Tryz.func79, Tryz.ntmps79
  go_wp2_with (go_at_call 144; (refine (cmpOr_any (w.heap.size + 1 + 1) [af - bf, at_ - bt, an - bn, 0, s0 - bs, alo - blo, ahi - bhi] _ (by simp) ?_).mono ?_); (intro i x h; rcases i with _ | _ | _ | _ | _ | _ | _ | i <;> simp at h <;> subst h <;> go_simp); rintro e w2 ⟨rfl, rfl⟩)
  go_ret
  exact ⟨ret_int (by rw [HE.out]; rfl), HB.out _ _ _⟩
 ·go_enter Tryz.func79, Tryz.ntmps79
  go_wp2_with (go_at_call 144; (refine (cmpOr_any (w.heap.size + 1 + 1) [af - bf, at_ - bt, an - bn, -1, s0 - bs, alo - blo, ahi - bhi] _ (by simp) ?_).mono ?_); (intro i x h; rcases i with _ | _ | _ | _ | _ | _ | _ | i <;> simp at h <;> subst h <;> go_simp); rintro e w2 ⟨rfl, rfl⟩)
  go_ret
  exact ⟨ret_int (by rw [HE.out]; rfl), HB.out _ _ _⟩
 ·go_enter Tryz.func79, Tryz.ntmps79
  go_wp2_with (go_at_call 144; (refine (cmpOr_any (w.heap.size + 1 + 1) [af - bf, at_ - bt, an - bn, 1, s0 - bs, alo - blo, ahi - bhi] _ (by simp) ?_).mono ?_); (intro i x h; rcases i with _ | _ | _ | _ | _ | _ | _ | i <;> simp at h <;> subst h <;> go_simp); rintro e w2 ⟨rfl, rfl⟩)
  go_ret
  exact ⟨ret_int (by rw [HE.out]; rfl), HB.out _ _ _⟩
 ·go_enter Tryz.func79, Tryz.ntmps79
  go_wp2_with (go_at_call 144; (refine (cmpOr_any (w.heap.size + 1 + 1) [af - bf, at_ - bt, an - bn, 0, s0 - bs, alo - blo, ahi - bhi] _ (by simp) ?_).mono ?_); (intro i x h; rcases i with _ | _ | _ | _ | _ | _ | _ | i <;> simp at h <;> subst h <;> go_simp); rintro e w2 ⟨rfl, rfl⟩)
  go_ret
  exact ⟨ret_int (by rw [HE.out]; rfl), HB.out _ _ _⟩
end
section
open Go.RowKit
def nxt (skip : List Nat) : List Bool → Nat → Nat
 | [], i => i
 | b :: l, i => cond (b || skip.contains i) (nxt skip l (i + 1)) i
section
variable {P : Program} {md : Region.Mode} {ops : Array Oper} {Q : Exit → Act → World → Prop} {S : World → Prop}
theorem take1 (skip : List Nat) {i : Nat} {oi : Oper} {v : Value} {fuel : Nat} {listed : List Bool} {a : Act} {w : World} (hn : nxt skip listed 0 = i) (hi : ops[i]? = some oi)
 (hs : Region.noSelect ops = true) (hf : Region.free md ops listed.toArray i = true) (hr : (Region.ready md ops listed.toArray).contains i = true)
 (hQ : ∀ c a w, Q (.panic c) (a.put oi.dst v) w → Q (.panic c) a w) (hy : YieldsIf P ops S oi v a) (hS : S w)
 (h : wpAnyH P md ops Q S fuel (listed.set i true).toArray (a.put oi.dst v) w) : wpAnyH P md ops Q S (fuel + 1) listed.toArray a w :=
 wpAnyH_take hi hs hf hr hQ hy hS (by simpa using h)
theorem zR (n : Nat) {ls : List Bool} {id : Nat} {a : Act} {w : World} (hm : P.follows .mixedOrders = true) (hn : ops.size = n) (hl : List.replicate n false = ls) (hS : S w.drew)
 (h : S w.drew → wpAnyH P .any ops Q S n ls.toArray a w.drew) : (Code.region id ops true).wp P Q a w := by
 subst hn; subst hl
 exact wp_region_held_drew hm hS fun hS => by simpa using h hS
theorem callW (skip : List Nat) {i : Nat} {oi : Oper} {fuel : Nat} {listed : List Bool} {a : Act} {w : World} {f : FuncId} {fargs : Array Operand} {tys : Array TypeId} {args : Array Value} {R : Ending → World → Prop}
 (hn : nxt skip listed 0 = i) (hi : ops[i]? = some oi) (hr : Region.ready md ops listed.toArray = [i]) (ho : oi.op = .call { callee := .value (.func f), args := fargs, argTypes := tys })
 (hw : Region.wanted oi (yielded ops a.tmps) = true) (he : ∀ args w, (callFunc f args).run P w = .ok (.enter f args) w) (hc : Calls P f args w R) (hargs : fargs.toList.map a.eval = args.toList)
 (h : ∀ e w', R e w' → (∃ v, e = .returned v ∧ S w' ∧ (S w' → wpAnyH P md ops Q S fuel (listed.set i true).toArray (a.put oi.dst v) w')) ∨ ∃ c, e = .panicked c ∧ Q (.panic c) a w') : wpAnyH P md ops Q S (fuel + 1) listed.toArray a w := by
 refine wpAnyH_ready hr (by simp) (AllReadyH.cons hi (fun K hK => ?_) AllReadyH.nil)
 rw [if_pos hw]
 have hev : a.eval (.func f) = .func (.func f) #[] #[] := rfl
 have hargs2 : fargs.map a.eval = args := by
  apply Array.toList_inj.1
  rw [Array.toList_map]; exact hargs
 unfold Oper.wp execOp
 simp only [ho, resolve, hev, hargs2, Sem.run_bind, Sem.run_pure, Result.andThen_ok]
 simp only [invoke, Array.empty_append, Array.append_empty]
 simp [go_sem, he]
 refine hc.mono ?_
 intro e w' hr'
 rcases h e w' hr' with ⟨v, rfl, h1, h2⟩ | ⟨c, rfl, h1⟩
 ·exact hK.out _ _ h1 (fun hS => by rw [List.setIfInBounds_toArray]; exact h2 hS)
 ·exact h1
theorem takeA (skip : List Nat) {i : Nat} {oi : Oper} {v : Value} {fuel : Nat} {listed l' : List Bool} {a a' : Act} {w : World}
 (hn : nxt skip listed 0 = i := by simp only [nxt, List.contains_cons, List.contains_nil, Bool.or_false, Bool.or_self, Bool.true_or, cond_true, cond_false, Nat.zero_add, Nat.reduceAdd, Nat.reduceBEq, Bool.false_or]; rfl)
 (hi : ops[i]? = some oi := by rfl) (hs : Region.noSelect ops = true := by kernel_rfl) (hf : Region.free md ops listed.toArray i = true := by kernel_rfl) (hr : (Region.ready md ops listed.toArray).contains i = true := by kernel_rfl)
 (hy : YieldsIf P ops S oi v a := by first | (refine Or.inr ⟨by rfl, ?_⟩; rfl) | (refine Or.inl ⟨by rfl, ?_⟩; intro w hSw; (try dsimp only at hSw); go_simp; done) | (refine Or.inl ⟨by rfl, ?_⟩; intro w hSw; (try dsimp only at hSw); go_simp; with_reducible rfl))
 (hp : a.put oi.dst v = a' := by simp only [Act.put, List.getElem_toArray, List.getElem_cons_zero, List.getElem_cons_succ, List.setIfInBounds_toArray, List.set_cons_zero, List.set_cons_succ]; rfl) (hl : listed.set i true = l' := by simp only [List.set_cons_zero, List.set_cons_succ]; rfl) (hS : S w := by assumption)
 (hQ : ∀ c a w, Q (.panic c) (a.put oi.dst v) w → Q (.panic c) a w := by exact fun _ _ _ h => h) (h : wpAnyH P md ops Q S fuel l'.toArray a' w) : wpAnyH P md ops Q S (fuel + 1) listed.toArray a w := by
 subst hp; subst hl
 exact take1 skip hn hi hs hf hr hQ hy hS h
theorem normA {fuel : Nat} {l l' : List Bool} {a a' : Act} {w : World} (hp : a = a' := by simp only [Act.put, List.getElem_toArray, List.getElem_cons_zero, List.getElem_cons_succ, List.setIfInBounds_toArray, List.set_cons_zero, List.set_cons_succ]; rfl) (hl : l = l' := by simp only [List.set_cons_zero, List.set_cons_succ]; rfl) (h : wpAnyH P md ops Q S fuel l'.toArray a' w) : wpAnyH P md ops Q S fuel l.toArray a w := by
 subst hp; subst hl; exact h
theorem callA (skip : List Nat) {i : Nat} {oi : Oper} {fuel : Nat} {listed : List Bool} {a : Act} {w : World} {f : FuncId} {fargs : Array Operand} {tys : Array TypeId} {args : Array Value} {R : Ending → World → Prop}
 (hn : nxt skip listed 0 = i := by simp only [nxt, List.contains_cons, List.contains_nil, Bool.or_false, Bool.or_self, Bool.true_or, cond_true, cond_false, Nat.zero_add, Nat.reduceAdd, Nat.reduceBEq, Bool.false_or]; rfl)
 (hi : ops[i]? = some oi := by rfl) (hr : Region.ready md ops listed.toArray = [i] := by kernel_rfl) (ho : oi.op = .call { callee := .value (.func f), args := fargs, argTypes := tys } := by rfl) (hw : Region.wanted oi (yielded ops a.tmps) = true := by rfl)
 (he : ∀ args w, (callFunc f args).run P w = .ok (.enter f args) w) (hc : Calls P f args w R) (hargs : fargs.toList.map a.eval = args.toList)
 (h : ∀ e w', R e w' → (∃ v, e = .returned v ∧ S w' ∧ (S w' → wpAnyH P md ops Q S fuel (listed.set i true).toArray (a.put oi.dst v) w')) ∨ ∃ c, e = .panicked c ∧ Q (.panic c) a w') : wpAnyH P md ops Q S (fuel + 1) listed.toArray a w :=
 callW skip hn hi hr ho hw he hc hargs h
end
end
section
open Go.RowKit Go.MapKept
def pairOf (e : MapEntry) : Value × Value := (e.key, e.val)
def kvV (p : Int × Value) : Value × Value := (.int .i64 p.1, p.2)
def MapOf (w : World) (r : Nat) (kv : List (Int × Value)) : Prop :=
 ∃ es clock, w.heap[r]? = some (.map es clock) ∧ Stamped es clock ∧ (es.toList.map pairOf).Perm (kv.map kvV)
def kvGet (kv : List (Int × Value)) (x : Int) : Option Value := (kv.find? fun p => p.1 == x).map (·.2)
theorem mapOf_keys {es : Array MapEntry} {kv : List (Int × Value)} (h : (es.toList.map pairOf).Perm (kv.map kvV)) : ∀ x ∈ es.toList, IsKey (.int .i64) x.key := by
 intro x hx
 obtain ⟨p, hp, e⟩ := List.mem_map.1 (h.mem_iff.1 (List.mem_map_of_mem (f := pairOf) hx))
 have : x.key = .int .i64 p.1 := (congrArg Prod.fst e).symm
 rw [this]; exact rfl
theorem mapOf_nodup {es : Array MapEntry} {clock : Nat} {kv : List (Int × Value)} (hs : Stamped es clock) (h : (es.toList.map pairOf).Perm (kv.map kvV)) : (kv.map Prod.fst).Nodup := by
 have h1 : (es.toList.map (·.key)).Perm (kv.map fun p => Value.int .i64 p.1) := by
  have := h.map Prod.fst
  simpa [List.map_map, Function.comp_def, pairOf, kvV] using this
 have h2 := h1.nodup_iff.1 hs.2.2
 have : (kv.map fun p => Value.int .i64 p.1) = (kv.map Prod.fst).map (Value.int .i64) := by simp [List.map_map, Function.comp_def]
 rw [this] at h2
 exact (List.nodup_iff_pairwise_ne.2 ((List.pairwise_map.1 (List.nodup_iff_pairwise_ne.1 h2)).imp fun h e => h (by rw [e])))
theorem kvGet_of_mem {kv : List (Int × Value)} (hn : (kv.map Prod.fst).Nodup) {x : Int} {v : Value} (h : (x, v) ∈ kv) : kvGet kv x = some v := by
 induction kv with
 | nil => simp at h
 | cons p l ih =>
  rw [List.map_cons, List.nodup_cons] at hn
  rcases List.mem_cons.1 h with rfl | h
  ·simp [kvGet]
  ·have hne : (p.1 == x) = false := by
    rw [beq_eq_false_iff_ne]
    intro e
    exact hn.1 (List.mem_map.2 ⟨_, h, e.symm⟩)
   have := ih hn.2 h
   simp only [kvGet, List.find?_cons, hne] at this ⊢
   exact this
theorem kvGet_none {kv : List (Int × Value)} {x : Int} (h : ∀ p ∈ kv, p.1 ≠ x) : kvGet kv x = none := by
 simp only [kvGet, Option.map_eq_none_iff, List.find?_eq_none]
 intro p hp
 simp [h p hp]
theorem find_map {es : Array MapEntry} {clock : Nat} {kv : List (Int × Value)} (hs : Stamped es clock) (h : (es.toList.map pairOf).Perm (kv.map kvV)) (x : Int) :
 (Instr.findNow (.int .i64) (.int .i64 x) es.toList 0 = some none ∧ kvGet kv x = none ∧ ∀ e ∈ es.toList, e.key ≠ .int .i64 x) ∨
 ∃ j e, Instr.findNow (.int .i64) (.int .i64 x) es.toList 0 = some (some (j, e.val)) ∧ es.toList[j]? = some e ∧ e.key = .int .i64 x ∧ kvGet kv x = some e.val := by
 rcases findNow_spec (d := .int .i64) (k := .int .i64 x) rfl es.toList 0 (mapOf_keys h) with ⟨h1, h2⟩ | ⟨j, e, h1, h2, h3⟩
 ·refine .inl ⟨h1, kvGet_none fun p hp e => ?_, h2⟩
  obtain ⟨y, hy, ey⟩ := List.mem_map.1 (h.mem_iff.2 (List.mem_map_of_mem (f := kvV) hp))
  exact h2 y hy ((congrArg Prod.fst ey).trans (by simp [kvV, e]))
 ·refine .inr ⟨j, e, by simpa using h1, h2, h3, ?_⟩
  obtain ⟨p, hp, ep⟩ := List.mem_map.1 (h.mem_iff.1 (List.mem_map_of_mem (f := pairOf) (List.mem_of_getElem? h2)))
  have e1 : Value.int .i64 p.1 = e.key := congrArg Prod.fst ep
  have e2 : p.2 = e.val := congrArg Prod.snd ep
  rw [h3] at e1
  injection e1 with _ e1
  rw [← e2]
  exact kvGet_of_mem (mapOf_nodup hs h) (by rw [← e1]; exact hp)
section
variable {P : Program} {w : World} {T K E r : Nat} {kv : List (Int × Value)}
theorem run_lookup_of (hT : P.underlying T = some (.map K E)) (hK : P.underlying K = some (.int .i64)) {z : Value} (hz : (zeroValue E).run P w = .ok z w) (h : MapOf w r kv) (x : Int) (ok : Bool) :
 (Instr.lookup T (.map (some r)) (.int .i64 x) ok).run P w = .ok (if ok then .tuple #[(kvGet kv x).getD z, .bool (kvGet kv x).isSome] else (kvGet kv x).getD z) w := by
 obtain ⟨es, clock, hb, hs, hp⟩ := h
 have hk : IsKey (.int .i64) (.int .i64 x) := rfl
 rcases find_map hs hp x with ⟨h1, h2, _⟩ | ⟨j, e, h1, _, _, h2⟩
 ·simp [Instr.lookup, run_underlying hT, MapKept.run_getObj_map hb, MapKept.run_checkKey hK hk, MapKept.run_findKey hK h1, hz, h2, Result.andThen]
 ·simp [Instr.lookup, run_underlying hT, MapKept.run_getObj_map hb, MapKept.run_checkKey hK hk, MapKept.run_findKey hK h1, h2, Result.andThen]
theorem perm_put {l : List MapEntry} {j : Nat} {e : MapEntry} (hj : l[j]? = some e) : ∃ l1 l2, l = l1 ++ e :: l2 ∧ l1.length = j := by
 obtain ⟨hlt, rfl⟩ := List.getElem?_eq_some_iff.1 hj
 exact ⟨l.take j, l.drop (j + 1), by rw [List.getElem_cons_drop, List.take_append_drop], by simp; omega⟩
theorem modify_mid {α : Type} (f : α → α) : ∀ (l1 : List α) (e : α) (l2 : List α), (l1 ++ e :: l2).modify l1.length f = l1 ++ f e :: l2
 | [], e, l2 => by simp
 | x :: l1, e, l2 => by
  have := modify_mid f l1 e l2
  simp only [List.cons_append, List.length_cons, List.modify_succ_cons, this]
theorem fr_heapSet (w : World) (r : Nat) (o : Obj) : Fr (fun i => i = r) w { w with heap := w.heap.setIfInBounds r o } :=
 ⟨rfl, rfl, rfl, by simp, fun k _ hs => by simp [Ne.symm hs]⟩
theorem filter_kv {kv : List (Int × Value)} {l1 l2 : List MapEntry} {e : MapEntry} {x : Int} (hp : ((l1 ++ e :: l2).map pairOf).Perm (kv.map kvV)) (hn : ((l1 ++ e :: l2).map (·.key)).Nodup) (he : e.key = .int .i64 x) :
 ((l1 ++ l2).map pairOf).Perm ((kv.filter fun p => p.1 != x).map kvV) := by
 have hf := hp.filter (fun q : Value × Value => match q.1 with | .int .i64 y => y != x | _ => true)
 have e1 : ((l1 ++ e :: l2).map pairOf).filter (fun q : Value × Value => match q.1 with | .int .i64 y => y != x | _ => true) = (l1 ++ l2).map pairOf := by
  rw [List.map_append, List.map_append, List.map_cons, List.filter_append, List.filter_cons]
  have hne : ∀ y ∈ l1 ++ l2, y.key ≠ .int .i64 x := by
   intro y hy eq
   rw [List.map_append, List.map_cons, List.nodup_append] at hn
   obtain ⟨_, h2, h3⟩ := hn
   rw [List.nodup_cons] at h2
   rcases List.mem_append.1 hy with hy | hy
   ·exact h3 _ (List.mem_map_of_mem hy) _ (List.mem_cons_self) (eq.trans he.symm)
   ·exact h2.1 (List.mem_map.2 ⟨y, hy, eq.trans he.symm⟩)
  have hk : ∀ (l : List MapEntry), (∀ y ∈ l, y ∈ l1 ++ l2) → (l.map pairOf).filter (fun q : Value × Value => match q.1 with | .int .i64 y => y != x | _ => true) = l.map pairOf := by
   intro l hl
   refine List.filter_eq_self.2 fun q hq => ?_
   obtain ⟨y, hy, rfl⟩ := List.mem_map.1 hq
   have := hne y (hl y hy)
   simp only [pairOf]
   split
   ·rename_i z hz
    rw [bne_iff_ne]
    intro e2
    exact this (by rw [hz, e2])
   ·rfl
  rw [hk l1 fun y hy => List.mem_append.2 (.inl hy), hk l2 fun y hy => List.mem_append.2 (.inr hy)]
  simp [pairOf, he]
 have e2 : (kv.map kvV).filter (fun q : Value × Value => match q.1 with | .int .i64 y => y != x | _ => true) = (kv.filter fun p => p.1 != x).map kvV := by
  rw [List.filter_map]
  congr 1
 rw [e1, e2] at hf
 exact hf
theorem run_update_of (hT : P.underlying T = some (.map K E)) (hK : P.underlying K = some (.int .i64)) (h : MapOf w r kv) (x : Int) (v : Value) :
 ∃ w', (Instr.mapUpdate T (.map (some r)) (.int .i64 x) v).run P w = .ok () w' ∧ MapOf w' r ((x, v) :: kv.filter fun p => p.1 != x) ∧ Fr (fun i => i = r) w w' ∧ w'.heap.size = w.heap.size := by
 obtain ⟨es, clock, hb, hs, hp⟩ := h
 have hk : IsKey (.int .i64) (.int .i64 x) := rfl
 rcases find_map hs hp x with ⟨h1, h2, h3⟩ | ⟨j, e, h1, hj, he, h2⟩
 ·refine ⟨{ w with heap := w.heap.setIfInBounds r (.map (es.push { key := .int .i64 x, val := v, born := clock }) (clock + 1)) }, ?_, ⟨_, _, (heap_set hb).1, stamped_push hs h3, ?_⟩, fr_heapSet _ _ _, by simp⟩
  ·simp [Instr.mapUpdate, run_underlying hT, MapKept.run_getObj_map hb, MapKept.run_checkKey hK hk, MapKept.run_findKey hK h1, MapKept.run_setObj_map _ hb, Result.andThen]
  ·have hf : (kv.filter fun p => p.1 != x) = kv := by
    refine List.filter_eq_self.2 fun p hp' => ?_
    rw [bne_iff_ne]
    intro e
    have := kvGet_of_mem (mapOf_nodup hs hp) (x := p.1) (v := p.2) hp'
    rw [e, h2] at this
    cases this
   rw [hf, Array.toList_push, List.map_append, List.map_cons]
   exact (List.perm_append_comm).trans (hp.cons _)
 ·have hj' : es[j]? = some e := by simpa using hj
  refine ⟨{ w with heap := w.heap.setIfInBounds r (.map (es.modify j fun e => { e with key := .int .i64 x, val := v }) clock) }, ?_, ⟨_, _, (heap_set hb).1, stamped_modify hs _ _ (fun _ _ => rfl) (fun e' _ he' => by rw [hj'] at he'; cases he'; exact he.symm), ?_⟩, fr_heapSet _ _ _, by simp⟩
  ·simp [Instr.mapUpdate, run_underlying hT, MapKept.run_getObj_map hb, MapKept.run_checkKey hK hk, MapKept.run_findKey hK h1, hj', he, MapKept.run_keyThatStays hk, MapKept.run_setObj_map _ hb, Result.andThen]
  ·obtain ⟨l1, l2, hl, hlen⟩ := perm_put hj
   have hm : (es.modify j fun e => { e with key := .int .i64 x, val := v }).toList = l1 ++ ({ e with key := .int .i64 x, val := v } : MapEntry) :: l2 := by
    rw [Array.toList_modify, hl, ← hlen]
    exact modify_mid _ _ _ _
   rw [hm, List.map_append, List.map_cons]
   rw [hl] at hp
   have hn : ((l1 ++ e :: l2).map (·.key)).Nodup := by rw [← hl]; exact hs.2.2
   have := filter_kv hp hn he
   rw [List.map_append] at this
   exact (List.perm_middle).trans (this.cons _)
end
end
section
open Go.RowKit Go.MapKept
structure KeyOk {κ : Type} [DecidableEq κ] (P : Program) (K : TypeId) (enc : κ → Value) : Prop where
 check : ∀ (x : κ) (em : Bool) (w : World), (Instr.checkKey em 10000 K (enc x)).run P w = .ok () w
 eq : ∀ (x y : κ) (w : World), (Op.equal K (enc x) (enc y)).run P w = .ok (decide (x = y)) w
 now : ∀ (x y : κ) (d : TypeDesc), P.underlying K = some d → Instr.sameNow d (enc x) (enc y) = none
 some : ∃ d, P.underlying K = some d
 bits : ∀ x : κ, Instr.sameBits 10000 (enc x) (enc x) = true
section
variable {κ : Type} [DecidableEq κ]
def getK (kv : List (κ × Value)) (x : κ) : Option Value := (kv.find? fun p => p.1 = x).map (·.2)
def MapF (enc : κ → Value) (w : World) (r : Nat) (f : κ → Option Value) : Prop :=
 ∃ (es : Array MapEntry) (clock : Nat) (kv : List (κ × Value)), w.heap[r]? = some (.map es clock) ∧ es.toList.map pairOf = kv.map (fun p => (enc p.1, p.2)) ∧ f = getK kv
theorem MapF.move {enc : κ → Value} {w W : World} {S : Nat → Prop} {r : Nat} {f : κ → Option Value} (h : MapF enc w r f) (hf : Fr S w W) (h2 : ¬ S r) : MapF enc W r f := by
 obtain ⟨es, c, kv, hb, h3⟩ := h
 exact ⟨es, c, kv, (hf.block r (Array.getElem?_eq_some_iff.1 hb).1 h2).trans hb, h3⟩
theorem MapF.lt {enc : κ → Value} {w : World} {r : Nat} {f : κ → Option Value} (h : MapF enc w r f) : r < w.heap.size := by
 obtain ⟨es, c, kv, hb, h3⟩ := h
 exact (Array.getElem?_eq_some_iff.1 hb).1
theorem MapF.new (enc : κ → Value) {w : World} {r : Nat} (h : w.heap[r]? = some (.map #[] 0)) : MapF enc w r fun _ => none := ⟨#[], 0, [], h, rfl, rfl⟩
variable {P : Program} {w : World} {T K E r : Nat} {enc : κ → Value}
theorem asking_of (hk : KeyOk P K enc) (x : κ) : ∀ (es : List MapEntry) (kv : List (κ × Value)) (n : Nat) (w : World), es.map pairOf = kv.map (fun p => (enc p.1, p.2)) →
 ((Instr.findAsking K (enc x) es n).run P w = .ok none w ∧ getK kv x = none ∧ (∀ p ∈ kv, p.1 ≠ x)) ∨
 ∃ (j : Nat) (v : Value), (Instr.findAsking K (enc x) es n).run P w = .ok (some (n + j, v)) w ∧ getK kv x = some v ∧ kv[j]? = some (x, v) ∧ ∀ p ∈ kv.take j, p.1 ≠ x
 | [], kv, n, w, h => by
  have : kv = [] := by cases kv with | nil => rfl | cons p l => simp at h
  subst this
  exact .inl ⟨by simp [Instr.findAsking], rfl, by simp⟩
 | e :: es, [], n, w, h => by simp at h
 | e :: es, p :: kv, n, w, h => by
  rw [List.map_cons, List.map_cons] at h
  injection h with h1 h2
  have e1 : e.key = enc p.1 := congrArg Prod.fst h1
  have e2 : e.val = p.2 := congrArg Prod.snd h1
  have hq := hk.eq x p.1 w
  by_cases hx : x = p.1
  ·refine .inr ⟨0, p.2, ?_, ?_, ?_, by simp⟩
   ·rw [Instr.findAsking]
    simp [e1, hq, Result.andThen, hx, e2, hk.eq]
   ·simp [getK, hx]
   ·simp [hx]
  ·have hx' : ¬ p.1 = x := fun h => hx h.symm
   have hs : (Instr.findAsking K (enc x) (e :: es) n).run P w = (Instr.findAsking K (enc x) es (n + 1)).run P w := by
    rw [Instr.findAsking]
    simp [e1, hq, Result.andThen, hx]
   rcases asking_of hk x es kv (n + 1) w h2 with ⟨g1, g2, g3⟩ | ⟨j, v, g1, g2, g3, g4⟩
   ·refine .inl ⟨hs.trans g1, ?_, ?_⟩
    ·simpa [getK, hx'] using g2
    ·intro q hq
     rcases List.mem_cons.1 hq with rfl | hq
     ·exact hx'
     ·exact g3 q hq
   ·refine .inr ⟨j + 1, v, ?_, ?_, ?_, ?_⟩
    ·rw [hs, g1, show n + 1 + j = n + (j + 1) by omega]
    ·simpa [getK, hx'] using g2
    ·simpa using g3
    ·intro q hq
     rw [List.take_succ_cons] at hq
     rcases List.mem_cons.1 hq with rfl | hq
     ·exact hx'
     ·exact g4 q hq
theorem findKey_of (hk : KeyOk P K enc) (x : κ) (es : List MapEntry) (kv : List (κ × Value)) (w : World) (h : es.map pairOf = kv.map (fun p => (enc p.1, p.2))) :
 ((Instr.findKey K (enc x) es).run P w = .ok none w ∧ getK kv x = none ∧ (∀ p ∈ kv, p.1 ≠ x)) ∨
 ∃ (j : Nat) (v : Value), (Instr.findKey K (enc x) es).run P w = .ok (some (j, v)) w ∧ getK kv x = some v ∧ kv[j]? = some (x, v) ∧ ∀ p ∈ kv.take j, p.1 ≠ x := by
 obtain ⟨d, hd⟩ := hk.some
 have hf : (Instr.findKey K (enc x) es).run P w = (Instr.findAsking K (enc x) es 0).run P w := by
  cases es with
  | nil => simp [Instr.findKey, run_underlying hd, Instr.findNow, Instr.findAsking, Result.andThen]
  | cons e es =>
   cases kv with
   | nil => simp at h
   | cons p kv =>
    rw [List.map_cons, List.map_cons] at h
    injection h with h1 h2
    have e1 : e.key = enc p.1 := congrArg Prod.fst h1
    simp [Instr.findKey, run_underlying hd, Instr.findNow, e1, hk.now x p.1 d hd, Result.andThen]
 rw [hf]
 rcases asking_of hk x es kv 0 w h with h1 | ⟨j, v, g1, g2⟩
 ·exact .inl h1
 ·exact .inr ⟨j, v, by simpa using g1, g2⟩
theorem run_lookup_f (hk : KeyOk P K enc) (hT : P.underlying T = some (.map K E)) {z : Value} (hz : (zeroValue E).run P w = .ok z w) {f : κ → Option Value} (h : MapF enc w r f) (x : κ) (ok : Bool) :
 (Instr.lookup T (.map (some r)) (enc x) ok).run P w = .ok (if ok then .tuple #[(f x).getD z, .bool (f x).isSome] else (f x).getD z) w := by
 obtain ⟨es, clock, kv, hb, hp, rfl⟩ := h
 rcases findKey_of hk x es.toList kv w hp with ⟨h1, h2, _⟩ | ⟨j, v, h1, h2, _⟩
 ·simp [Instr.lookup, run_underlying hT, MapKept.run_getObj_map hb, hk.check, h1, hz, h2, Result.andThen]
 ·simp [Instr.lookup, run_underlying hT, MapKept.run_getObj_map hb, hk.check, h1, h2, Result.andThen]
theorem getK_push (kv : List (κ × Value)) (x : κ) (v : Value) (h : ∀ p ∈ kv, p.1 ≠ x) : getK (kv ++ [(x, v)]) = fun y => if y = x then some v else getK kv y := by
 funext y
 unfold getK
 rw [List.find?_append]
 by_cases hy : y = x
 ·subst hy
  have : (kv.find? fun p => decide (p.1 = y)) = none := List.find?_eq_none.2 fun p hp => by simp [h p hp]
  simp [this]
 ·rw [if_neg hy]
  have : decide (x = y) = false := decide_eq_false fun e => hy e.symm
  simp [this]
theorem getK_mid (v v' : Value) (x : κ) : ∀ (kv : List (κ × Value)) (j : Nat), kv[j]? = some (x, v) → (∀ p ∈ kv.take j, p.1 ≠ x) → getK (kv.set j (x, v')) = fun y => if y = x then some v' else getK kv y
 | [], j, h, _ => by simp at h
 | p :: kv, 0, h, _ => by
  have h : p = (x, v) := by simpa using h
  subst h
  funext y
  by_cases hy : y = x
  ·subst hy; simp [getK]
  ·have : decide (x = y) = false := decide_eq_false fun e => hy e.symm
   simp [getK, this, hy]
 | p :: kv, j + 1, h, hn => by
  have ih := getK_mid v v' x kv j (by simpa using h) fun q hq => hn q (by rw [List.take_succ_cons]; exact List.mem_cons_of_mem _ hq)
  have hpx : p.1 ≠ x := hn p (by rw [List.take_succ_cons]; exact List.mem_cons_self)
  funext y
  have ihy := congrFun ih y
  by_cases hpy : p.1 = y
  ·have : ¬ y = x := fun e => hpx (hpy.trans e)
   simp [getK, hpy, this]
  ·simp only [getK] at ihy ⊢
   rw [List.set_cons_succ, List.find?_cons, List.find?_cons]
   simpa [hpy] using ihy
theorem run_update_f (hk : KeyOk P K enc) (hT : P.underlying T = some (.map K E)) {f : κ → Option Value} (h : MapF enc w r f) (x : κ) (v : Value) :
 ∃ w', (Instr.mapUpdate T (.map (some r)) (enc x) v).run P w = .ok () w' ∧ MapF enc w' r (fun y => if y = x then some v else f y) ∧ Fr (fun i => i = r) w w' ∧ w'.heap.size = w.heap.size := by
 obtain ⟨es, clock, kv, hb, hp, rfl⟩ := h
 rcases findKey_of hk x es.toList kv w hp with ⟨h1, h2, h3⟩ | ⟨j, u, h1, h2, h3, h4⟩
 ·refine ⟨{ w with heap := w.heap.setIfInBounds r (.map (es.push { key := enc x, val := v, born := clock }) (clock + 1)) }, ?_, ⟨_, _, kv ++ [(x, v)], (heap_set hb).1, ?_, (getK_push kv x v h3).symm⟩, fr_heapSet _ _ _, by simp⟩
  ·simp [Instr.mapUpdate, run_underlying hT, MapKept.run_getObj_map hb, hk.check, h1, MapKept.run_setObj_map _ hb, Result.andThen]
  ·rw [Array.toList_push, List.map_append, hp, List.map_append]; rfl
 ·have hlen : es.toList.length = kv.length := by have := congrArg List.length hp; simpa using this
  have hjk := (List.getElem?_eq_some_iff.1 h3).1
  have hj : j < es.size := by have : es.toList.length = es.size := Array.length_toList; omega
  have he : (es[j]'hj).key = enc x := by
   have := congrArg (fun l => l[j]?) hp
   simp only [List.getElem?_map, h3, Option.map_some] at this
   rw [List.getElem?_eq_getElem (by simpa using hj)] at this
   simp only [Option.map_some, Option.some.injEq, pairOf, Prod.mk.injEq, Array.getElem_toList] at this
   exact this.1
  have hge : (((es[j]?).map (·.key)).getD (enc x)) = enc x := by rw [Array.getElem?_eq_getElem hj]; simpa using he
  refine ⟨{ w with heap := w.heap.setIfInBounds r (.map (es.modify j fun e => { e with key := enc x, val := v }) clock) }, ?_, ⟨_, _, kv.set j (x, v), (heap_set hb).1, ?_, (getK_mid u v x kv j h3 h4).symm⟩, fr_heapSet _ _ _, by simp⟩
  ·have hks : (Instr.keyThatStays (enc x) (enc x)).run P w = .ok (enc x) w := by simp [Instr.keyThatStays, hk.bits]
   simp [Instr.mapUpdate, run_underlying hT, MapKept.run_getObj_map hb, hk.check, h1, hj, he, hks, MapKept.run_setObj_map _ hb, Result.andThen]
  ·rw [Array.toList_modify]
   have hm : (es.toList.modify j fun e => { e with key := enc x, val := v }).map pairOf = (es.toList.map pairOf).set j (enc x, v) := by
    apply List.ext_getElem?
    intro i
    rw [List.getElem?_map, List.getElem?_modify, List.getElem?_set]
    by_cases hij : j = i
    ·subst hij
     simp [hj, pairOf]
    ·simp [hij]
   rw [hm, hp, List.map_set]
end
end
end Go.Proofs.YtgiploddoffmjaaGreat
